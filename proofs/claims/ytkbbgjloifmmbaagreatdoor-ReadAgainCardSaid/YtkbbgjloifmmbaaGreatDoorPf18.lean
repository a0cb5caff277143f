/- What ReadAgainP leans on, part 18. -/
import Derived.Test.YtkbbgjloifmmbaaGreatDoorPf14
import Derived.Test.YtkbbgjloifmmbaaGreatDoorPf16
import Derived.Test.YtkbbgjloifmmbaaGreatDoorPf15
set_option linter.unusedVariables false
set_option maxRecDepth 100000
set_option maxHeartbeats 6400000
open _root_.Go.Proofs.Tryz
open _root_.Go renaming World->aAX
open _root_.Go.RowKit renaming Below->aAW
open _root_.Go.Exit renaming jump->aBL,thenS->aBC
open _root_.Option renaming some->aBf
open _root_.Go.Instr renaming sliceAt->aA1
open _root_.Array renaming replicate->aBD
namespace Go.Proofs.YtkbbgjloifmmbaaGreatDoor
open Go.RowKit Go.Sort
variable{N k:Nat}{t:aT}{b r s u x y:Tx}{c:UInt8}{w w1:aAX}
abbrev DA(s:Tx)(k:Nat)(t:aT):List Value:=.string (tx s):: .int .i64 k::cT t
structure dL(w1 w:aAX)(s:Tx)(k:Nat)(t:aT):Prop where
 own:au w w1.heap.size 68 14 (aBf ⟨w1.heap.size,0,none⟩) 1 1 (DA s k t)
 cF:aAW w1.heap.size w1 w
 gl:Gl w1
 sl:s.length<=262144
 le:k<=s.length
section
variable {w1 w:aAX} {s:Tx} {k:Nat} {t:aT}
theorem dL.bx(h:dL w1 w s k t):aW w w1.heap.size (DA s k t):=by
 refine⟨(au.lt h.own aq).2,fun j hj=>?_⟩;have:=(au.row h.own).cell j hj;simpa using this
theorem dL.eK(h:dL w1 w s k t)(j:Nat):w.frozen? ⟨w1.heap.size,j,none⟩=false:=by
 have:=au.frozen h.own aq j;simpa using this
theorem dL.below{w':aAX}(h:dL w1 w s k t)(hb:aAW w.heap.size w w'):dL w1 w' s k t:=
 ⟨au.below h.own hb,aI h.cF hb,h.gl,h.sl,h.le⟩
theorem dL.kept{w':aAX}{r:Option Nat}(h:dL w1 w s k t)(hg:w.grownBy w' r)(hr: ∀b,r=aBf b->w1.heap.size<b):dL w1 w' s k t:=by
 refine⟨au.kept h.own hg (.inr ?_),h.cF.grown hg h.cF.size (fun b hb=>Nat.le_of_lt (hr b hb)),h.gl,h.sl,h.le⟩;cases r with
 |none=>simp
 |some b=>have:=hr b rfl;simp;omega
theorem dL.g(h:dL w1 w s k t):Gl w:=h.gl.below h.cF
theorem dL.lt(h:dL w1 w s k t):w1.heap.size<w.heap.size:=(au.lt h.own aq).2
theorem dL.put(h:dL w1 w s k t)(j:Nat)(v:Value){k':Nat}{t':aT}(e:(DA s k t).set j v=DA s k' t')(hk:k'<=s.length):dL w1 (w.setCell ⟨w1.heap.size,j,none⟩ v) s k' t'/\St w (w.setCell ⟨w1.heap.size,j,none⟩ v) w1.heap.size:=by
 exact acC
end
def uv(er:Int)(k:Nat):Ending:=.panicked [{ v:=.iface 65 (.agg #[.int .i64 er,.int .i64 k]),recovered:=false }]
def xU(N:Nat)(r:Tx)(e:Ending):Prop:=
 (aM r=[]/\e= .returned (.tuple #[.string (tx []),.int .i64 N,.int .i64 N,.bool false]))\/
 ∃b,aM r≠[]/\(∀c∈b,aH c=true)/\(10:UInt8)∉b/\(b.length<=cE N (aM r)/\b.length+(aM r).length<=r.length)/\e= .returned (.tuple #[.string (tx (b++(aM r).takeWhile (· != 10))),.int .i64 (cE N (aM r):Nat),.int .i64 (N-(cP (aM r)).length:Nat),.bool true])
theorem azG{P:Program}{a:Act}{Q:Exit->Act->aAX->Prop}{c X:Code}(l:Nat)(J:Act->aAX->Prop)(μ:Act->aAX->Nat)(hf:findLabel c l=some (.seq .skip X))
 (first:(∀a w,J a w->X.wp P (aBL l J Q) a w)->c.wp P (aBL l J Q) a w)
 (pass: ∀a w,J a w->X.wp P (aBL l (fun a' w'=>J a' w'/\μ a' w'<μ a w) Q) a w):(Code.scope c).wp P Q a w:=by
 refine wp_scope_jumps l J μ hf (first fun a w h=>wp_mono (pass a w h) ?_) fun a w h=>wp_seq (wp_skip (pass a w h))
 intro e a w h;cases e<;>simp only[aBL]at h⊢
 case goto l'=>exact⟨h.1,h.2.1⟩
 all_goals exact h
theorem KE(hu:u.head?=some c)(hc:aH c=false)(hb: ∀c∈b,aH c=true):aG (b++u.takeWhile (· != 10))=bB u/\Tr (bB u)/\(bB u).head?=some c:=by
 cases u with
 |nil=>cases hu
 | cons d r=>
   obtain rfl:d=c:=aS hu
   have h10:(d != 10)=true:=by
    rw[ye];rintro rfl;revert hc;decide
   have e2:cR (d::r.takeWhile (· != 10))=d::cR (r.takeWhile (· != 10)):=by
    have:=Hi [] (r.takeWhile (· != 10)) d hc;rw[rF,eE]at this
    have e3: ∃m,cR (d::r.takeWhile (· != 10))=d::m:=by
     unfold cR;rw[Ca,Cv _ _ hc,zY];exact⟨_,rfl⟩
    obtain⟨m,em⟩:=e3;rw[em,tj (by rw[hc];decide)]at this;rw[em];exact this
   have e1:bB (d::r)=d::cR (r.takeWhile (· != 10)):=by
    unfold bB;rw[tu (p:=fun x=>x != 10) h10,e2]
   have ht:aG (b++(d::r).takeWhile (· != 10))=bB (d::r):=by
    rw[tu (p:=fun x=>x != 10) h10,Hi b _ d hc,e1]
    have:b.dropWhile aH=[]:=by
     have:=pX (p:=aH) (l₂:=[]) hb;simpa using this
    rw[this];rfl
   refine⟨ht,?_,by rw[e1];rfl⟩;rw[<-ht];exact Tr.trim _
theorem ar4{m:Nat}(hk:k<=s.length)(hm:((s.drop k).takeWhile (· != 10)).length=m):s.drop (min (k+m+1) s.length)=cP (s.drop k)/\min (k+m+1) s.length=s.length-(cP (s.drop k)).length:=by
 have e:=aiW (s.drop k);rw[hm,gC]at e;have hl:=congrArg List.length e;rw[dG]at hl;refine⟨?_,ah⟩;rw[e];rcases Nat.le_total (k+m+1) s.length with h|h
 ·rw[wg h];congr 1
 rw[Nat.min_eq_right h,iN (aX _),iN ah]
theorem axo(h: ∀c∈r,aH c=true):aM r=[]:=by
 have:=pX (p:=aH) (l₂:=[]) h;simpa[aM]using this
theorem DM(p:Tx):aG p=[]<-> ∀c∈p,aH c=true:=by
 constructor
 ·intro h
  have:aY p=[]:=by rw[<-AX,h,Dq]
  exact Pt this
 intro h
 have h2:aY p=[]:=by
  have:=Gr _ [] p (aX _) h;simpa[Dq]using this
 cases e:aG p with
 |nil=>rfl
 | cons c r=>
   have h3:c∈aG p:=by rw[e];simp
   have h4:aH c=false:=YY c (by rw[e];rfl);rw[h c (Lv h3)]at h4;cases h4
theorem ay2(h:c∉r):r.takeWhile (· != c)=r:=by
 have k: ∀x∈r,(x != c)=true:=fun x hx=>by
  rw[ye];rintro rfl;exact h hx
 have:=EU (p:=(· != c)) (l₂:=[]) k;simpa using this
theorem aoK{tw f:Tx}(h:tw=b++aM tw)(hf:aM tw=f):tw=b++f:=by rw[<-hf];exact h
def lfP(rb k:Nat)(v:Nat->Value):Act:={ tmps:=#[.pointer (some ⟨rb,0,none⟩),undef,.string ⟨#[]⟩,.int .i64 0,.int .i64 0,.bool false,.int .i64 k,v 7,v 8,v 9,v 10,v 11,v 12,v 13,v 14,v 15,v 16,v 17,v 18,v 19,v 20,v 21,v 22,v 23,v 24,v 25,v 26,v 27,v 28,v 29,v 30,v 31,v 32,v 33,v 34,v 35,v 36,v 37,v 38,v 39,v 40,v 41,v 42,v 43,v 44,v 45,v 46,v 47,v 48,v 49,v 50,v 51,v 52,v 53,v 54,v 55,v 56,v 57,v 58,v 59,v 60,v 61,v 62,v 63,v 64,v 65,v 66,v 67,v 68,v 69,v 70,v 71,v 72,v 73,v 74,v 75,v 76,v 77,v 78],defers:=[] }
theorem Qy(l:Tx)(a:Nat)(h:a<=l.length): ∀w,(aA1 9 (.string (tx l)) (some (.int .i64 a)) none none).run prog w= .ok (.string (tx (l.drop a))) w:=xz l a h
theorem Ld(s:Tx)(rb k0:Nat)(hk0:k0<=s.length)(hl:s.length<=262144)(w:aAX)(c0:w.cell? ⟨rb,0,none⟩=some (.string (tx s)))(c1:w.cell? ⟨rb,1,none⟩=some (.int .i64 k0)):
 Calls prog 74 #[.pointer (some ⟨rb,0,none⟩)] w (fun e w'=>xU s.length (s.drop k0) e/\aAW w.heap.size w w'):=by
 obtain⟨u,hu⟩:=aF (aM (s.drop k0));have HU:=af hu;have hrb:=k8 c0;simp only at hrb;obtain⟨n,hn⟩:=aF ((tx s).size);have hns:n=s.length:=by rw[<-hn,bC]
 have HK:=af hk0;have HN:=af hns;have HL:=af hl;have nc:n<=262144:=ah;have iG:k0<=n:=ah;clear hu hk0 hns hl;go_in;go_wp2_with fail;refine azG 0 (fun a' w'=>aAW w.heap.size w w'/\ ∃k:Nat,k<=n/\k0<=k/\a'=lfP rb k (fun i=>a'.tmps.getD i undef)/\Hid (aM (s.drop k)=u)) (fun a' _=>n-(intOf (a'.tmps.getD 6 undef)).toNat) rfl ?_ ?_
 ·intro uX
  have HRS:=af uX;clear uX;go_wp2
  go_step3
  rename_i hK;refine hK _ _ (HRS.oo _ _ ?_);exact⟨bS _ _,k0,iG,aX _,rfl,HU⟩
 rintro a' w' ⟨E,k,hk,aAo,ha,hat⟩
 generalize (fun k=>a'.tmps.getD k undef)=v at ha;subst ha;unfold lfP;have d0:=(E.cell hrb).trans c0;have hks:k<=s.length:=by have:=HN.oo;omega
 have HE:=af E
 by_cases hkn:k<n
 ·obtain⟨m,hm⟩:=aF (((s.drop k).takeWhile (· != 10)).length)
  have zk:decide ((n:Int)<=(k:Int))=false:=aC;have sl:=Qy s k hks;have IB:=af (fun w=>WG (s.drop k) 10 w);obtain⟨i1,i2⟩:=WE 10 (s.drop k);obtain⟨x1,x2⟩:=agy (s.drop k);obtain⟨y1,y2⟩:=ar4 hks hm
  have hml:k+m<=s.length:=by
   have:=ud (· != 10) (s.drop k);rw[hm,dG]at this;omega
  have hno:(10:UInt8)∉s.drop k->k+m=s.length:=fun h=>by
   rw[<-hm,ay2 h,dG];omega
  have etw:(s.take (k+m)).drop k=(s.drop k).takeWhile (· != 10):=by
   rw[tG,show k+m-k=m by omega,<-hm];exact(SE.1 (Cn _)).symm
  have vD:=nB s k (k+m) ah hml;rw[etw]at vD;obtain⟨b,eW,eG,jn⟩:=ay3 ((s.drop k).takeWhile (· != 10))
  have h10:(10:UInt8)∉b:=fun h=>by
   have h2:(10:UInt8)∈(s.drop k).takeWhile (· != 10):=by rw[eG];simp[h]
   have:=fP.1 (wA (p:=(· != 10)) (l:=s.drop k)) 10 h2;simp at this
  have htl:((s.drop k).takeWhile (· != 10)).length<=9223372036854775807:=by rw[hm];have:=HN.oo;omega
  have TR:=af (fun w=>tZ ((s.drop k).takeWhile (· != 10)) htl w);have LD:=af (fun w=>Lc ((s.drop k).takeWhile (· != 10)) htl w)
  have hte:aG ((s.drop k).takeWhile (· != 10))=[]<->aM ((s.drop k).takeWhile (· != 10))=[]:=by
   constructor
   ·intro h
    exact axo ((DM _).1 h)
   intro h;exact(DM _).2 (wJ h)
  have pL:(s.drop k).length=s.length-k:=dG;generalize (s.drop k).takeWhile (· != 10)=tw at*;obtain⟨q,hq⟩:=aF (min (k+m+1) s.length);rw[hq]at y1 y2;have yL:q<=n:=by have:=HN.oo;omega
  have hqk:k<q:=by have:=HN.oo;omega
  obtain⟨f,hf⟩:=aF (aM tw);have YES:=af (show f=[]->aM (s.drop q)=u from fun h=>by rw[y1,x1 (by rw[hf];exact h)];exact hat.oo)
  have pe:=af (show f≠[]->xU n (s.drop k0) (.returned (.tuple #[.string (tx tw),.int .i64 ((k:Int)+((m-f.length:Nat):Int)),.int .i64 q,.bool true]))from fun h=>by
   obtain⟨z1,z2,z3,z4⟩:=x2 (by rw[hf];exact h);have hns:=HN.oo
   right
   refine⟨b,?_,eW,h10,?_,?_⟩
   ·rw[HU.oo,<-hat.oo];exact z1
   ·rw[HU.oo,<-hat.oo];unfold cE;rw[hf]at z4 jn
    refine⟨ ah,?_⟩;have hd1:=dG (i:=k) (l:=s);have lP:=dG (i:=k0) (l:=s);omega
   rw[HU.oo,<-hat.oo,z2,hf,z3,<-aoK eG hf]
   have e1:cE n (aM (s.drop k))=k+(m-f.length):=by unfold cE;rw[hf,hm]at z4;omega
   have e2:n-(cP (s.drop k)).length=q:=ah;rw[e1,e2,Int.natCast_add])
  clear x1 x2 etw eW eG jn h10 pL y1 y2 htl;have hmn:m<=262144:=by have:=HN.oo;omega
  have Wl:(q:Int)=if(n:Int)<(k:Int)+(m:Int)+1 then(n:Int)else(k:Int)+(m:Int)+1:=by have:=HN.oo;omega
  have HT:=af hte
  by_cases hin:(10:UInt8)∈s.drop k
  ·have e8:=i2 hin
   rw[hm]at e8;have IB:=af (fun w=>e8▸IB.oo w);have z8:decide ((0:Int)<=(m:Int))=true:=aq;have sl3: ∀w,(aA1 9 (.string (tx s)) (some (.int .i64 k)) (some (.int .i64 ((k:Int)+(m:Int)))) none).run prog w= .ok (.string (tx tw)) w:=vD;have mn: ∀ts ty w,(Builtin.min_ ts ty #[.int .i64 ((k:Int)+(m:Int)+1),.int .i64 n]).run prog w= .ok (.int .i64 q) w:=fun ts ty=>ajt ts ty .i64 _ _ _ Wl
   clear i1 i2 vD hno hin e8 Wl hte
   by_cases iZ:f=[]
   ·have HY:=af (YES.oo iZ)
    have ht0:=HT.oo.2 (by rw[hf];exact iZ);rw[ht0]at TR;have TR:=af (fun w=>(show bg w (.string (tx []))=bg w (.string ⟨#[]⟩)from rfl)▸TR.oo w);have HF:=af hf;clear hf iZ ht0 HT
    go_wp2_with (first|(go_at_call 78;refine aK (IB.oo _) ?_)|fail)
    refine aQ (TR.oo _) fun w2 E2=>?_
    have rK:=af (aI E E2);have d0:=(E2.cell (p:=⟨rb,0,none⟩) (by have:=E.size;simp;omega)).trans d0;clear E2;go_wp2_with fail
    go_step3
    exact acD
   have pe:=af (pe.oo iZ)
   obtain⟨t,ht⟩:=aF (aG tw);have ht0:t≠[]:=fun h=>iZ (by rw[<-hf];exact HT.oo.1 (by rw[ht];exact h))
   rw[ht]at TR;rw[hf,hm]at LD
   have zt:(tx t).toList.isEmpty=false:=by rw[bU];cases t with
    |nil=>exact absurd rfl ht0
    |cons a b=>rfl
   have hfm:(m-f.length:Nat)<=262144:=ah;clear hf iZ HT ht ht0
   go_wp2_with (first|(go_at_call 78;refine aK (IB.oo _) ?_)|fail)
   refine aQ (TR.oo _) fun w2 E2=>?_
   have rK:=af (aI E E2);have d0:=(E2.cell (p:=⟨rb,0,none⟩) (by have:=E.size;simp;omega)).trans d0;clear E2;have cA:=fun(d:Nat) (os:Array Obj)=>Calls.regrown_of (LD.oo (grow (redrawn w2 d) os))
   go_wp2_with fail;have d0:=cell_regrown d0;refine wp_region_quiet_below bM bM ?_
   repeat(go_big_quiet_step (exact cA _ _))
   exact acE
  have e8:=i1 hin
  have ekm:=hno hin;have IB:=af (fun w=>e8▸IB.oo w);have sl3: ∀w,(aA1 9 (.string (tx s)) (some (.int .i64 k)) (some (.int .i64 n)) none).run prog w= .ok (.string (tx tw)) w:=by have:=HN.oo;rw[show((k+m:Nat):Int)=(n:Int) by omega]at vD;exact vD
  have mn: ∀ts ty w,(Builtin.min_ ts ty #[.int .i64 ((n:Int)+1),.int .i64 n]).run prog w= .ok (.int .i64 q) w:=fun ts ty=>ajt ts ty .i64 _ _ _ (bE HN.oo)
  clear i1 i2 vD hno hin e8 Wl hte ekm
  by_cases iZ:f=[]
  ·have HY:=af (YES.oo iZ)
   have ht0:=HT.oo.2 (by rw[hf];exact iZ);rw[ht0]at TR;have TR:=af (fun w=>(show bg w (.string (tx []))=bg w (.string ⟨#[]⟩)from rfl)▸TR.oo w);have HF:=af hf;clear hf iZ ht0 HT
   go_wp2_with (first|(go_at_call 78;refine aK (IB.oo _) ?_)|fail)
   refine aQ (TR.oo _) fun w2 E2=>?_
   have rK:=af (aI E E2);have d0:=(E2.cell (p:=⟨rb,0,none⟩) (by have:=E.size;simp;omega)).trans d0;clear E2;go_wp2_with fail
   go_step3
   exact acD
  have pe:=af (pe.oo iZ)
  obtain⟨t,ht⟩:=aF (aG tw);have ht0:t≠[]:=fun h=>iZ (by rw[<-hf];exact HT.oo.1 (by rw[ht];exact h))
  rw[ht]at TR;rw[hf,hm]at LD
  have zt:(tx t).toList.isEmpty=false:=by rw[bU];cases t with
   |nil=>exact absurd rfl ht0
   |cons a b=>rfl
  have hfm:(m-f.length:Nat)<=262144:=ah;clear hf iZ HT ht ht0
  go_wp2_with (first|(go_at_call 78;refine aK (IB.oo _) ?_)|fail)
  refine aQ (TR.oo _) fun w2 E2=>?_
  have rK:=af (aI E E2);have d0:=(E2.cell (p:=⟨rb,0,none⟩) (by have:=E.size;simp;omega)).trans d0;clear E2;have cA:=fun(d:Nat) (os:Array Obj)=>Calls.regrown_of (LD.oo (grow (redrawn w2 d) os))
  go_wp2_with fail;have d0:=cell_regrown d0;refine wp_region_quiet_below bM bM ?_
  repeat(go_big_quiet_step (exact cA _ _))
  exact acE
 obtain rfl:k=n:=ah
 have zk:decide ((k:Int)<=(k:Int))=true:=aq;have pe:=af (show xU k (s.drop k0) (.returned (.tuple #[.string (tx []),.int .i64 k,.int .i64 k,.bool false]))from .inl ⟨by rw[HU.oo,<-hat.oo,HN.oo,wD];rfl,rfl⟩);have iV:=af HN.oo.symm;clear hat hks hkn;go_wp2_with fail
 go_big_region
 all_goals go_wp2_with fail
 all_goals simp only[aBL]
 all_goals exact aZ (by simp[results,results74,go_sem];rfl) rfl ⟨by rw[iV.oo];exact pe.oo,jV HE.oo⟩
theorem Lb(p:Value)(er k:Int)(w:aAX):Calls prog 76 #[p,.int .i64 er,.int .i64 k] w (fun e w'=>e= .panicked [{ v:=.iface 65 (.agg #[.int .i64 er,.int .i64 k]),recovered:=false }]/\aAW w.heap.size w w'):=by
 go_in;go_wp2;exact⟨rfl,rfl,gD⟩
theorem aiD(l:Tx)(hl:l.length<=262144)(w:aAX):Calls prog 75 #[.string (tx l)] w fun e w'=> ∃a,e= .returned (.slice a (dH [] l).length (dH [] l).length)/\cO w' a (dH [] l)/\w.heap.size<=bk a/\aAW w.heap.size w w':=by
 have hfl:=aon l
 have F: ∀w,Calls prog 147 #[.string (tx l),.func (.func 148) #[] #[]] w fun e w'=> ∃a,e= .returned (.slice a (dH [] l).length (dH [] l).length)/\cO w' a (dH [] l)/\w.heap.size<=bk a/\aAW w.heap.size w w':=fun w=>by
  refine(Any.strings_FieldsFunc_grows Tryz.aqM 148 #[] (enters_of func148 bM rfl) qv (tx l) w (by rw[bC];omega) (fun W x hx _=>avW x hx W) bM bM).mono ?_;rintro e w' ⟨A,rfl,hA,hO,hB⟩;rw[anU]at hO⊢;simp only[eT]at hO⊢;refine⟨_,rfl,⟨?_,ah⟩,(au.lt (show au w' w.heap.size _ 1 (aBf ⟨A,0,none⟩) _ _ _ from hO) aq).1,hB⟩;have:=au.row (show au w' w.heap.size _ 1 (aBf ⟨A,0,none⟩) _ _ _ from hO);rw[Cj]at this;exact this
 have F:=af F;obtain⟨L,hL⟩:=aF (dH [] l);rw[hL]at F⊢;clear hfl hL hl;go_in;go_wp2_with fail;refine(F.oo _).mono ?_;rintro e w1 ⟨a,rfl,T,hab,E⟩;go_wp2;go_ret;exact⟨a,rfl,T,hab,E⟩
def aae(p:EP (Int × Tx × Tx))(w1 w:aAX)(s:Tx)(t:aT)(e:Ending)(w':aAX):Prop:=aAW w1.heap.size w1 w'/\((∃er k,p= .error (er,k)/\e=uv er k)\/(∃a n r1 k',p= .ok (a,n,r1)/\s.drop k'=r1/\e= .returned (.tuple #[])/\St w w' w1.heap.size/\dL w1 w' s k' { t with ag:=a,name:=n }))
theorem aff(h:sN (bB (aM r))=none):iF N r= .error (140,cE N (aM r)):=by
 unfold iF;dsimp only;rw[h]
theorem afd(h:sN (bB (aM r))=some (x,y))(h2:Cp x=none):iF N r= .error (5,cE N (aM r)):=by
 unfold iF;dsimp only;rw[h];dsimp only;rw[h2]
theorem afg{a:Int}(h:sN (bB (aM r))=some (x,y))(h2:Cp x=some a):iF N r= .ok (a,y,cP (aM r)):=by
 unfold iF;dsimp only;rw[h];dsimp only;rw[h2]
theorem GH(N:Nat):cE N []=N:=rfl
theorem JJ(h:u <:+ s.drop k):s.drop (s.length-u.length)=u:=by
 have h2:u <:+ s:=h.trans (List.drop_suffix k s);exact(Co.1 h2).symm
theorem nC(r:Tx):aM r <:+ r:=iu _
theorem GY(r:Tx):cP r <:+ r:=(List.drop_suffix 1 _).trans (iu _)
theorem avN(R:dL w1 w s k t):Calls prog 27 #[.pointer (some ⟨w1.heap.size,0,none⟩)] w (aae (iF s.length (s.drop k)) w1 w s t):=by
 obtain⟨c0,c1⟩:=R.bx.qb;have hl:=R.sl;have PK:=af (Ld s w1.heap.size k R.le R.sl w c0 c1);have FL:=af (fun p er k w=>Lb p er k w);have HR:=af R;obtain⟨u,hu⟩:=aF (aM (s.drop k));have P1:=af (fun h=>aff (N:=s.length) (r:=s.drop k) h);have P2:=af (fun x y h h2=>afd (N:=s.length) (r:=s.drop k) (x:=x) (y:=y) h h2);have P3:=af (fun x y a h h2=>afg (N:=s.length) (r:=s.drop k) (x:=x) (y:=y) (a:=a) h h2);rw[hu]at P1 P2 P3;generalize iF s.length (s.drop k)=hp at*;clear c0 c1;go_in;go_wp2_with fail;refine PK.oo.mono ?_;rintro e w2 ⟨hv,E2⟩;unfold xU at hv;rw[hu]at hv;rcases hv with⟨h0,rfl⟩|⟨b,h0,hb,h10,mM,rfl⟩
 ·have WD:=af (aiD [] aq)
  have P1:=af (P1.oo (by rw[h0];rfl));rw[h0,GH]at P1;have E2:=af E2;clear hu h0;go_wp2_with fail;refine(WD.oo _).mono ?_;rintro e w3 ⟨a,rfl,T,hab,E3⟩;have E:=af (aI E2.oo E3);simp only[show(dH [] []).length=0 from rfl];clear T E3;exact acF
 obtain⟨c,hc⟩: ∃c,u.head?=some c:=by
  cases u with
  |nil=>exact absurd rfl h0
  |cons c r=>exact⟨c,rfl⟩
 have hcb:aH c=false:=lQ (l:=s.drop k) (p:=aH) (by rw[show(s.drop k).dropWhile aH=u from hu];exact hc);obtain⟨q1,q2,q3⟩:=KE hc hcb hb;have iH:u.length<=s.length:=by rw[<-hu];have:=(nC (s.drop k)).length_le;have:=dG (i:=k) (l:=s);omega
 have hin:b.length+u.length<=s.length:=by unfold cE at mM;omega
 have hlen:(b++u.takeWhile (· != 10)).length<=262144:=by have:=ud (· != 10) u;rw[bu];omega
 have WD:=af (aiD (b++u.takeWhile (· != 10)) hlen);have T2:=ay8 q2;rw[<-q1,aop,q1]at T2;have uX:s.drop (s.length-(cP u).length)=cP u:=JJ (k:=k) ((GY u).trans (by rw[<-hu];exact nC _));have hle:s.length-(cP u).length<=s.length:=ah;generalize b++u.takeWhile (· != 10)=ln at*;obtain⟨L,hL⟩:=aF (dH [] ln);rw[hL]at WD T2;have E2:=af E2;have HT:=af T2;have Ik:=af uX;clear hu hc q1 q2 q3 hL T2 uX iH hin hlen mM;go_wp2_with fail;refine(WD.oo _).mono ?_;rintro e w3 ⟨a,rfl,T,hab,E3⟩;have E:=af (aI E2.oo E3);clear E3
 by_cases h2:L.length=2
 ·match L,h2 with
  |[x,y],_=>
  have P2:=af (fun h=>P2.oo x y HT.oo h);have P3:=af (fun a h=>P3.oo x y a HT.oo h);have i0: ∀w',(Instr.indexAt 42 (.slice a 2 2) (.int .i64 0)).run prog w'=_:=T.idx 0 aq 2;have i1: ∀w',(Instr.indexAt 42 (.slice a 2 2) (.int .i64 1)).run prog w'=_:=T.idx 1 aq 2;have x0:w3.cell? ⟨bk a,fo a+0,none⟩=some (.string (tx x)):=T.cell 0 aq;have x1:w3.cell? ⟨bk a,fo a+1,none⟩=some (.string (tx y)):=T.cell 1 aq;simp only[gK]at i0 x0;have R3:=HR.oo.below E.oo;have hf:=fun j=>R3.eK j
  have AG:=hf 1;have uO:=hf 2;have hf3:=hf 3;obtain⟨-, q1,q2,q3⟩:=R3.bx.Jt;have hrb:=R3.lt;have aN:bk a≠w1.heap.size:=by have:=E2.oo.size;have:=HR.oo.lt;omega
  have CZ:=aN.symm
  by_cases hx1:x=[88,56,54]
  ·subst hx1
   have zx:((tx [88,56,54]).toList==[88,56,54])=true:=by rw[bU];rfl
   have P3:=af (P3.oo 1 rfl);generalize tx [88,56,54]=ux at*;have R4:=(R3.put 2 (.int .i64 1) (t':={ t with ag:=1 }) rfl R3.le).1;have R5:=(R4.put 3 (.string (tx y)) (t':={ t with ag:=1,name:=y }) rfl R4.le).1;have R6:=(R5.put 1 (.int .i64 (s.length-(cP u).length:Nat)) (k':=s.length-(cP u).length) (t':={ t with ag:=1,name:=y }) rfl hle).1;have ST:=((R3.put 2 (.int .i64 1) (t':={ t with ag:=1 }) rfl R3.le).2.trans (R4.put 3 (.string (tx y)) (t':={ t with ag:=1,name:=y }) rfl R4.le).2).trans (R5.put 1 (.int .i64 (s.length-(cP u).length:Nat)) (k':=s.length-(cP u).length) (t':={ t with ag:=1,name:=y }) rfl hle).2;replace ST:=af ((bX E.oo).trans ST);replace R6:=af R6;clear R3 R4 R5 T P1 P2;go_wp2
   go_end0
   exact acG
  have zx:=eD _ _ hx1
  by_cases hx2:x=[82,73,83,67,86]
  ·subst hx2
   have DW:((tx [82,73,83,67,86]).toList==[82,73,83,67,86])=true:=by rw[bU];rfl
   have P3:=af (P3.oo 2 rfl);generalize tx [82,73,83,67,86]=ux at*;have R4:=(R3.put 2 (.int .i64 2) (t':={ t with ag:=2 }) rfl R3.le).1;have R5:=(R4.put 3 (.string (tx y)) (t':={ t with ag:=2,name:=y }) rfl R4.le).1;have R6:=(R5.put 1 (.int .i64 (s.length-(cP u).length:Nat)) (k':=s.length-(cP u).length) (t':={ t with ag:=2,name:=y }) rfl hle).1;have ST:=((R3.put 2 (.int .i64 2) (t':={ t with ag:=2 }) rfl R3.le).2.trans (R4.put 3 (.string (tx y)) (t':={ t with ag:=2,name:=y }) rfl R4.le).2).trans (R5.put 1 (.int .i64 (s.length-(cP u).length:Nat)) (k':=s.length-(cP u).length) (t':={ t with ag:=2,name:=y }) rfl hle).2;replace ST:=af ((bX E.oo).trans ST);replace R6:=af R6;clear R3 R4 R5 T P1 P2 hx1;go_wp2
   go_end0
   exact acG
  have DW:=eD _ _ hx2
  have P2:=af (P2.oo (by unfold Cp;rw[ai hx1,ai hx2]));clear R3 hx1 hx2 T P1 P3;exact UP
 have P1:=af (P1.oo (by
  rw[HT.oo]
  match L,h2 with
  |[],_=>rfl
  |[_],_=>rfl
  |[_,_],h2=>exact absurd rfl h2
  |_::_::_::_,_=>rfl))
 have z2:((L.length:Int) != 2)=true:=aC;clear T h2 HT;generalize L.length=m at*;exact acF
def aac(p:EP (Tx × Tx))(w1 w:aAX)(s:Tx)(t:aT)(e:Ending)(w':aAX):Prop:=aAW w1.heap.size w1 w'/\((∃er k,p= .error (er,k)/\e=uv er k)\/(∃c r1 k',p= .ok (c,r1)/\s.drop k'=r1/\e= .returned (.tuple #[])/\St w w' w1.heap.size/\dL w1 w' s k' { t with bG:=c }))
theorem ab6(h:(bB (aM r)).head?≠some 34):fV N r= .ok ([],r):=by
 unfold fV;dsimp only;rw[ak h]
theorem ab5(h0:(bB (aM r)).head?=some 34)(h:(bB (aM r)).length<2\/(bB (aM r)).getLast?≠some 34\/(bB (aM r)).count 34≠2):fV N r= .error (140,cE N (aM r)):=by
 unfold fV;dsimp only;rw[ai (by rw[h0];simp),ak h]
theorem ab7(h0:(bB (aM r)).head?=some 34)(h: ¬((bB (aM r)).length<2\/(bB (aM r)).getLast?≠some 34\/(bB (aM r)).count 34≠2)):fV N r= .ok (aG ((bB (aM r)).drop 1).dropLast,cP (aM r)):=by
 unfold fV;dsimp only;rw[ai (by rw[h0];simp),ai h]
theorem ag5(h:t.bG=[]):{ t with bG:=[] }=t:=by
 obtain⟨ag,name,bG,ia,ic,init,ca,cc,code,q,node⟩:=t;simp only at h;subst h;rfl
theorem avM(R:dL w1 w s k t)(wU:t.bG=[]):Calls prog 28 #[.pointer (some ⟨w1.heap.size,0,none⟩)] w (aac (fV s.length (s.drop k)) w1 w s t):=by
 obtain⟨c0,c1⟩:=R.bx.qb;have hl:=R.sl;have PK:=af (Ld s w1.heap.size k R.le R.sl w c0 c1);have FL:=af (fun p er k w=>Lb p er k w);have HR:=af R;have HCY:=af (ag5 wU);obtain⟨u,hu⟩:=aF (aM (s.drop k));have P1:=af (fun h=>ab6 (N:=s.length) (r:=s.drop k) h);have P2:=af (fun h0 h=>ab5 (N:=s.length) (r:=s.drop k) h0 h);have P3:=af (fun h0 h=>ab7 (N:=s.length) (r:=s.drop k) h0 h);rw[hu]at P1 P2 P3;generalize fV s.length (s.drop k)=hp at*;clear c0 c1 wU;go_in;go_wp2_with fail;refine PK.oo.mono ?_;rintro e w2 ⟨hv,E2⟩;unfold xU at hv;rw[hu]at hv;rcases hv with⟨h0,rfl⟩|⟨b,h0,hb,h10,mM,rfl⟩
 ·have TR:=af (fun w=>tZ [] aq w)
  have P1:=af (P1.oo (by rw[h0];decide));have E2:=af E2;clear hu h0;go_wp2_with fail;refine aQ (TR.oo _) fun w3 E3=>?_
  have E:=af (aI E2.oo E3);clear E3;exact acH
 obtain⟨c,hc⟩: ∃c,u.head?=some c:=by
  cases u with
  |nil=>exact absurd rfl h0
  |cons c r=>exact⟨c,rfl⟩
 have hcb:aH c=false:=lQ (l:=s.drop k) (p:=aH) (by rw[show(s.drop k).dropWhile aH=u from hu];exact hc);obtain⟨q1,q2,q3⟩:=KE hc hcb hb;have iH:u.length<=s.length:=by rw[<-hu];have:=(nC (s.drop k)).length_le;have:=dG (i:=k) (l:=s);omega
 have hin:b.length+u.length<=s.length:=by unfold cE at mM;omega
 have hlen:(b++u.takeWhile (· != 10)).length<=262144:=by have:=ud (· != 10) u;rw[bu];omega
 have TR:=af (fun w=>tZ (b++u.takeWhile (· != 10)) ah w);have eL:=lZ (b++u.takeWhile (· != 10));rw[q1]at TR eL;have uX:s.drop (s.length-(cP u).length)=cP u:=JJ (k:=k) ((GY u).trans (by rw[<-hu];exact nC _));have hle:s.length-(cP u).length<=s.length:=ah;have yJ:(bB u).length<=262144:=ah;generalize b++u.takeWhile (· != 10)=ln at*;generalize bB u=l at*;have E2:=af E2;have Ik:=af uX;clear hu hc q1 q2 uX iH hin hlen mM eL;go_wp2_with fail;refine aQ (TR.oo _) fun w3 E3=>?_
 have E:=af (aI E2.oo E3);clear E3
 obtain⟨r0,rfl⟩: ∃r0,l=c::r0:=by
  cases l with
  |nil=>cases q3
  |cons d r0=>exact⟨r0,by rw[show d=c from fU q3]⟩
 have i0:=oU (c::r0) c rfl
 by_cases OB:c=34
 ·subst OB
  have y0:(((34:UInt8).toNat:Int) != 34)=false:=ay;have hsz:=bC (34::r0);obtain⟨n,hn⟩:=aF ((tx (34::r0)).size);have gF:n=r0.length+1:=by rw[<-hn,hsz];simp
  have nc:n<=262144:=by have:(34::r0).length=r0.length+1:=rfl;omega
  have CN:=af (fun w=>anm (34::r0) 34 w);rcases MU r0 with h1|⟨m,z,h1⟩
  ·have z1:decide ((n:Int)<2)=true:=by rw[gF,h1];decide
   have P2:=af (P2.oo rfl (.inl (by rw[h1];decide)));clear hsz gF P1 P3 h1;exact UP
  rw[IQ]at h1
  have z1:decide ((n:Int)<2)=false:=by rw[gF,h1];simp;omega
  have hm2:n=m.length+2:=by rw[gF,h1];simp
  have gl:(34::r0).getLast?=some z:=by rw[h1];exact Pq _ _ _
  have i1:=cH (34::r0) (m.length+1) z (by rw[h1];simp);rw[show((m.length+1:Nat):Int)=(n:Int)-1 by omega]at i1
  by_cases hz:z=34
  ·subst hz
   have y1:(((34:UInt8).toNat:Int) != 34)=false:=ay;obtain⟨cn,hcn⟩:=aF ((34::r0).count 34);rw[hcn]at CN
   by_cases hc2:cn=2
   ·subst hc2
    have P3:=af (P3.oo rfl (by
     rintro(h|h|h)
     ·rw[h1]at h;simp only[cy,bu,je]at h;omega
     ·exact h gl
     exact h hcn))
    have ed:(List.drop 1 (34::r0)).dropLast=m:=by rw[h1];simp
    rw[ed]at P3;have sl:=nB (34::r0) 1 (m.length+1) ah (by rw[h1];simp);have e2:((34::r0).take (m.length+1)).drop 1=m:=by rw[h1];simp
    rw[e2,show((m.length+1:Nat):Int)=(n:Int)-1 by omega,show((1:Nat):Int)=1 by rfl]at sl;have TM:=af (fun w=>tZ m ah w);have R3:=HR.oo.below E.oo;generalize aG m=tm at*;have R5:=R3.put 4 (.string (tx tm)) (t':={ t with bG:=tm }) rfl R3.le;clear hsz gF hm2 P1 P2 h1 ed e2 gl hcn R3 R5
    go_wp2_with (first|(go_at_call 77;refine aK (CN.oo _) ?_)|fail)
    refine aQ (TM.oo _) fun w4 E4=>?_
    have E:=af (aI E.oo E4);clear E4;have R3:=HR.oo.below E.oo;obtain⟨-, q1,-, -, q4⟩:=R3.bx.ji;have AG:=R3.eK 1;have hf4:=R3.eK 4;have hrb:=R3.lt;have R5:=R3.put 4 (.string (tx tm)) (t':={ t with bG:=tm }) rfl R3.le;have R6:=R5.1.put 1 (.int .i64 (s.length-(cP u).length:Nat)) (k':=s.length-(cP u).length) (t':={ t with bG:=tm }) rfl hle;have ST:=af ((bX E.oo).trans (R5.2.trans R6.2));replace R6:=af R6.1;clear R3 R5;go_wp2
    go_end0
    exact⟨R6.oo.cF,.inr ⟨_,_,_,P3.oo,Ik.oo,rfl,ST.oo,R6.oo⟩⟩
   have P2:=af (P2.oo rfl (.inr (.inr (by rw[hcn];exact hc2))))
   have z2:((cn:Int) != 2)=true:=aC;clear hsz gF hm2 P1 P3 h1 gl hcn hc2
   go_wp2_with (first|(go_at_call 77;refine aK (CN.oo _) ?_)|fail)
   exact anE
  have P2:=af (P2.oo rfl (.inr (.inl (by rw[gl];simpa using hz))))
  have y1:((z.toNat:Int) != 34)=true:=rG z 34 hz;clear hsz gF hm2 P1 P3 h1 gl hz;exact UP
 have P1:=af (P1.oo (aS OB))
 have y0:((c.toNat:Int) != 34)=true:=rG c 34 OB;clear P2 P3 OB;exact acH
theorem aw9(v:Value)(w:aAX):(Instr.typeAssert (.iface 65 v) 20 65 false).run prog w= .ok v w:=by kernel_rfl
theorem aw7(n k:Int)(w:aAX):(Instr.field 65 (.agg #[.int .i64 n,.int .i64 k]) 0).run prog w= .ok (.int .i64 n) w:=by kernel_rfl
theorem aw8(n k:Int)(w:aAX):(Instr.field 65 (.agg #[.int .i64 n,.int .i64 k]) 1).run prog w= .ok (.int .i64 k) w:=by kernel_rfl
theorem aiE(p q r:Addr)(w:aAX):
 CallsD prog 26 #[.pointer (some p),.pointer (some q),.pointer (some r)] .returning w fun e u' w'=>e= .returned (.tuple #[])/\u'= .returning/\w'=w:=by
 refine Nf func26 rfl fun c₀ cs hu=>?_
 apply Ag;apply Af;simp[wpOpsS,go_sem,recoverD,hu,ntmps26,aBC];apply Ag;apply Af;simp[wpOpsS,go_sem,aBC];refine wpS_cond (t:=false) (by simp[Act.eval,aBD]) ?_;simp only[ow,kn];refine Ni (wp_skip ?_);cases c₀
 simp_all [bodyPostS,results,results26]
theorem av0(bp bq br:Nat)(n k:Int)(w:aAX)(older:List PanicEntry)(us:List Value)(x y:Value)(hl:us.length=12)
 (h1:aW w bp us) (h2:w.cell? ⟨bq,0,none⟩=some x) (h3:w.cell? ⟨br,0,none⟩=some y) (f1: ∀j,w.frozen? ⟨bp,j,none⟩=false) (f2:w.frozen? ⟨bq,0,none⟩=false) (f3:w.frozen? ⟨br,0,none⟩=false)
 (n1:bp≠bq) (n2:bp≠br) (n3:bq≠br):
 CallsD prog 26 #[.pointer (some ⟨bp,0,none⟩),.pointer (some ⟨bq,0,none⟩),.pointer (some ⟨br,0,none⟩)] (.panicking ({ v:=.iface 65 (.agg #[.int .i64 n,.int .i64 k]),recovered:=false }::older)) w fun e u' w'=>e= .returned (.tuple #[])/\u'= .panicking ({ v:=.iface 65 (.agg #[.int .i64 n,.int .i64 k]),recovered:=true }::older)/\
  (∀B,B<=bp->B<=bq->B<=br->aAW B w w')/\aW w' bp [.int .i64 0,.string ⟨#[]⟩,.string ⟨#[]⟩,.slice none 0 0,.slice none 0 0,.int .i64 0,.int .i64 0,.int .i64 0,.int .i64 0,.string ⟨#[]⟩,.int .i64 0,.slice none 0 0]/\w'.cell? ⟨bq,0,none⟩=some (.int .i64 n)/\w'.cell? ⟨br,0,none⟩=some (.int .i64 k):=by
 match us,hl with
 |[u0,u1,u2,u3,u4,u5,u6,u7,u8,u9,u10,u11],_=>
 obtain⟨p0,p1,p2,p3,p4,p5,p6,p7,p8,p9,oO,oP⟩:=h1.Am;refine Nf func26 rfl fun c₀ cs hu=>?_
 apply Ag;apply Af;simp[wpOpsS,go_sem,recoverD,hu,ntmps26,aBC];apply Ag;apply Af;simp[wpOpsS,go_sem,aBC];refine wpS_cond (t:=true) (by simp[Act.eval,aBD]) ?_;simp only[lG];refine Ni ?_;have hx:=h1.1;have ta:=aw9;have tb:=aw7 n k;have tc:=aw8 n k;have f1a:=f1 0;have f1b:=f1 1;have f1c:=f1 2;have f1d:=f1 3;have f1e:=f1 4;have f1f:=f1 5;have f1g:=f1 6;have f1h:=f1 7;have f1i:=f1 8;have f1j:=f1 9;have f1k:=f1 10;have f1l:=f1 11;refine(?_:Code.wp prog _ _ ⟨#[.pointer (some ⟨bp,0,none⟩),.pointer (some ⟨bq,0,none⟩),.pointer (some ⟨br,0,none⟩),.iface 65 (.agg #[.int .i64 n,.int .i64 k]),.iface 65 (.agg #[.int .i64 n,.int .i64 k]),.iface 65 (.agg #[.int .i64 n,.int .i64 k]),.bool true,undef,undef,undef,undef,undef,undef,undef],[]⟩ w)
 go_big_region
 all_goals(try go_wp2_with fail)
 refine⟨rfl,_,rfl,.tuple #[],by simp[results,results26],rfl,rfl,fun B b1 b2 b3=>?_,⟨by simpa using hx,fun j hj=>?_⟩,by simp[go_sem,h2],by simp[go_sem,h3]⟩
 ·(repeat first|with_reducible refine qQ ?_ b1 _|with_reducible refine qQ ?_ b2 _|with_reducible refine qQ ?_ b3 _|with_reducible refine Below.drew ?_)
  exact bS _ _
 have:j=0\/j=1\/j=2\/j=3\/j=4\/j=5\/j=6\/j=7\/j=8\/j=9\/j=10\/j=11:=by simp at hj;omega
 rcases this with rfl|rfl|rfl|rfl|rfl|rfl|rfl|rfl|rfl|rfl|rfl|rfl<;>simp[go_sem,p0,p1,p2,p3,p4,p5,p6,p7,p8,p9,oO,oP]
def QA:Tx:=[88,56,54,32,32,32,83,66,10,34,70,114,101,32,80,111,100,87,82,32,70,114,101,32,80,111,100,87,82,34,10,123,32,120,61,48,59,32,91,121,93,32,61,32,48,32,125,10,80,48,124,80,49,59,10,77,79,86,32,91,120,93,44,36,49,124,77,79,86,32,91,121,93,32,44,32,36,49,59,10,124,59,10,77,79,86,32,69,65,88,44,91,121,93,124,77,79,86,32,69,65,88,44,91,120,93,59,10,101,120,105,115,116,115,32,40,48,58,69,65,88,61,48,32,47,92,10,49,58,69,65,88,61,48,41,10]
def TD:Tx:=[65,82,77,32,83,66]
def TN:Tx:=[88,56,54,32,83,66,10,123,120,61,59,125]
def ahm(p:EP aT):Bool:=match p with
 | .ok t=>(t.name==[83,66])&&((t.code.length==2)&&(((t.code[1]?).map (fun c=>c.l.length)==some 2)&&(t.init.length==2)))
 | .error _=>false
def Vf(p:EP aT):Int × Nat:=match p with
 | .ok _=>(0,0)
 | .error x=>x
theorem axg:ahm (gH QA)=true:=dD
theorem ak5:Vf (gH TD)=(5,0):=dD
theorem ali:Vf (gH TN)=(140,8):=dD
theorem axh: ∃t,gH QA= .ok t/\t.name=[83,66]/\t.code.length=2/\(∃c,t.code[1]? =some c/\c.l.length=2)/\t.init.length=2:=by
 have h:=axg;cases e:gH QA with
 |error x=>rw[e]at h;cases h
 | ok t=>
   rw[e]at h;unfold ahm at h;simp only[bV,pW]at h;obtain⟨h1,h2,h3,h4⟩:=h;refine⟨t,rfl,h1,h2,?_,h4⟩;cases hc:t.code[1]? with
   |none=>rw[hc]at h3;cases h3
   |some c=>rw[hc]at h3;exact⟨c,rfl,by simpa using h3⟩
theorem aeG{n:Int}(h:Vf (gH s)=(n,k))(hn:n≠0):gH s= .error (n,k):=by
 cases e:gH s with
 |error x=>rw[e]at h;exact congrArg _ h
 |ok t=>rw[e]at h;exact absurd (congrArg Prod.fst h).symm hn
theorem ak6:gH TD= .error (5,0):=aeG ak5 ay
theorem alj:gH TN= .error (140,8):=aeG ali ay
abbrev AZ(q:Int)(x:Nd):Obj:=.cells #[.int .i64 q,.int .i64 x.kind,.int .i64 x.th.aO,.int .i64 x.th.aR,.string (tx x.th.aj),.int .i64 x.val,.slice x.a x.aP.length x.c] 30
theorem auf(p q:Int)(x y:Nd)(w:aAX)(h1:fZ w x)(h2:fZ w y):Calls prog 39 #[vC p x,vC q y] w (Sf w (p=q/\bO x=bO y)):=by
 have A1:=al w (AZ p x);have A2:=al (w.alloc (AZ p x)) (AZ q y);have x0:=(aW.new w #[.int .i64 p,.int .i64 x.kind,.int .i64 x.th.aO,.int .i64 x.th.aR,.string (tx x.th.aj),.int .i64 x.val,.slice x.a x.aP.length x.c] 30).below A2;have y0:=aW.new (w.alloc (AZ p x)) #[.int .i64 q,.int .i64 y.kind,.int .i64 y.th.aO,.int .i64 y.th.aR,.string (tx y.th.aj),.int .i64 y.val,.slice y.a y.aP.length y.c] 30;rw[gQ]at y0;have HA:=af (aI A1 A2);have AN:=af (fun w2 (E:aAW ((w.alloc (AZ p x)).alloc (AZ q y)).heap.size ((w.alloc (AZ p x)).alloc (AZ q y)) w2)=>aug x y w2 ((h1.keep HA.oo).keep E) ((h2.keep HA.oo).keep E));obtain⟨b1,eW⟩: ∃b,(p==q)=b:=⟨_,rfl⟩;have HK:=af (show b1=true<->p=q by rw[<-eW];simp);obtain⟨p0,p1,p2,p3,p4,p5,p6⟩:=x0.pI;obtain⟨q0,q1,q2,q3,q4,q5,q6⟩:=y0.pI;clear h1 h2 A1 A2 x0 y0;cases b1 with
 | false=>
   have HZ:=af (show ¬(p=q/\bO x=bO y)from fun h=>by have:=HK.oo.2 h.1;cases this);go_in;go_wp2_with fail
   (try go_simp)
   exact Aw
 | true=>
   go_in;go_wp2_with fail;refine(AN.oo _ (bS _ _)).mono ?_;rintro e w2 ⟨bb,rfl,iP,E2⟩;have xM:=af iP;clear iP;go_wp2_with fail
   (try go_simp)
   go_ret;exact⟨bb,rfl,⟨fun h=>⟨HK.oo.1 nS,xM.oo.1 h⟩,fun h=>xM.oo.2 h.2⟩,aI HA.oo E2⟩
def we(a b:aT):Prop:=a.ag=b.ag/\a.name=b.name/\a.bG=b.bG/\a.init=b.init/\gy a.code=gy b.code/\a.q=b.q/\bO a.node=bO b.node
theorem aaR{a b:aT}:we a b<->mG a=mG b:=by
 unfold we mG tW;constructor
 ·rintro⟨h1,h2,h3,h4,h5,h6,h7⟩;rw[h1,h2,h3,h4,h5,h6,h7]
 intro h
 simp only[aT.mk.injEq]at h;obtain⟨h1,h2,h3,-, -, h4,-, -, h5,h6,h7⟩:=h;refine⟨h1,h2,h3,h4,?_,h6,h7⟩;have:=congrArg (fun l=>l.map (·.l)) h5;simpa[Function.comp_def]using this
theorem auM(a b:aT)(w:aAX)(h1:jz w a)(h2:jz w b):Calls prog 11 #[vT a,vT b] w (Sf w (we a b)):=by
 have A1:=al w (dZ a);have A2:=al (w.alloc (dZ a)) (dZ b);have a0:=(kf.new w a).below A2;have b0:=kf.new (w.alloc (dZ a)) b;rw[gQ]at b0;have HA:=af (aI A1 A2);have H1:=af (h1.keep HA.oo);have H2:=af (h2.keep HA.oo);clear h1 h2 A1 A2;obtain⟨b1,eW⟩: ∃x,(a.ag==b.ag)=x:=⟨_,rfl⟩;obtain⟨b2,eG⟩: ∃x,((tx a.name).toList==(tx b.name).toList)=x:=⟨_,rfl⟩;obtain⟨b3,jn⟩: ∃x,((tx a.bG).toList==(tx b.bG).toList)=x:=⟨_,rfl⟩;obtain⟨b4,nR⟩: ∃x,decide (a.init=b.init)=x:=⟨_,rfl⟩;obtain⟨b5,qg⟩: ∃x,decide (gy a.code=gy b.code)=x:=⟨_,rfl⟩;have K1:=af (show b1=true<->a.ag=b.ag by rw[<-eW];simp);have K2:=af (show b2=true<->a.name=b.name by rw[<-eG,j9];simp);have K3:=af (show b3=true<->a.bG=b.bG by rw[<-jn,j9];simp);have K4:=af (show b4=true<->a.init=b.init by rw[<-nR];simp);have K5:=af (show b5=true<->gy a.code=gy b.code by rw[<-qg];simp);have SI:=af (fun(w':aAX) (h1:cQ lM w' a.ia a.init) (h2:cQ lM w' b.ia b.init)=>auL a.init b.init a.ia b.ia a.ic b.ic w' h1 h2);have SC:=af (fun(w':aAX) (h1:jz w' a) (h2:jz w' b)=>auK a.code b.code a.ca b.ca a.cc b.cc w' h1.code h2.code h1.rows h2.rows);have SA:=af (fun(w':aAX) (h1:jz w' a) (h2:jz w' b)=>auf a.q b.q a.node b.node w' h1.node h2.node);rw[nR]at SI;rw[qg]at SC;clear nR qg;go_in;go_upto_region 1 with(fail);generalize (w.alloc (dZ a)).alloc (dZ b)=W1 at*;obtain⟨p0,p1,p2,p3,p4,p5,p6,p7,p8,p9,oO,oP⟩:=a0.cells
 obtain⟨q0,q1,q2,q3,q4,q5,q6,q7,q8,q9,nV,nX⟩:=b0.cells;cases b1 with
 | false=>
   have HZ:=af (show ¬we a b from fun h=>by have:=K1.oo.2 h.1;cases this);clear eG jn;go_wp2_with fail
   (try go_simp)
   exact Aw
 | true=>
   cases b2 with
   | false=>
     have HZ:=af (show ¬we a b from fun h=>by have:=K2.oo.2 h.2.1;cases this);clear jn;go_wp2_with fail
     (try go_simp)
     exact Aw
   | true=>
     cases b3 with
     | false=>
       have HZ:=af (show ¬we a b from fun h=>by have:=K3.oo.2 h.2.2.1;cases this);go_wp2_with fail
       (try go_simp)
       exact Aw
     | true=>
       go_wp2_with fail;refine aQ (SI.oo _ H1.oo.init H2.oo.init) fun w2 E=>?_
       clear p0 p1 p2 p3 p4 p5 p6 p7 p8 p9 oO oP q0 q1 q2 q3 q4 q5 q6 q7 q8 q9 nV nX;obtain⟨p0,p1,p2,p3,p4,p5,p6,p7,p8,p9,oO,oP⟩:=(a0.below E).cells;obtain⟨q0,q1,q2,q3,q4,q5,q6,q7,q8,q9,nV,nX⟩:=(b0.below E).cells;cases b4 with
       | false=>
         have HZ:=af (show ¬we a b from fun h=>by have:=K4.oo.2 h.2.2.2.1;cases this);go_wp2_with fail
         (try go_simp)
         exact UZ
       | true=>
         go_wp2_with fail;refine aQ (SC.oo _ (H1.oo.keep E) (H2.oo.keep E)) fun w3 E3=>?_
         have E:=aI E E3;clear p0 p1 p2 p3 p4 p5 p6 p7 p8 p9 oO oP q0 q1 q2 q3 q4 q5 q6 q7 q8 q9 nV nX E3;obtain⟨p0,p1,p2,p3,p4,p5,p6,p7,p8,p9,oO,oP⟩:=(a0.below E).cells;obtain⟨q0,q1,q2,q3,q4,q5,q6,q7,q8,q9,nV,nX⟩:=(b0.below E).cells;cases b5 with
         | false=>
           have HZ:=af (show ¬we a b from fun h=>by have:=K5.oo.2 h.2.2.2.2.1;cases this);go_wp2_with fail
           (try go_simp)
           exact UZ
         | true=>
           go_wp2_with fail;refine(SA.oo _ (H1.oo.keep E) (H2.oo.keep E)).mono ?_;rintro e w4 ⟨bb,rfl,iP,E4⟩;have E:=aI E E4;have xM:=af iP;clear p0 p1 p2 p3 p4 p5 p6 p7 p8 p9 oO oP q0 q1 q2 q3 q4 q5 q6 q7 q8 q9 nV nX E4 iP;go_wp2_with fail
           (try go_simp)
           go_ret;exact⟨bb,rfl,⟨fun h=>⟨K1.oo.1 nS,K2.oo.1 nS,K3.oo.1 nS,K4.oo.1 nS,K5.oo.1 nS,(xM.oo.1 h).1,(xM.oo.1 h).2⟩,fun h=>xM.oo.2 ⟨h.2.2.2.2.2.1,h.2.2.2.2.2.2⟩⟩,aI HA.oo E⟩
end Go.Proofs.YtkbbgjloifmmbaaGreatDoor
