/- What ReadAgainP leans on, part 14. -/
import Derived.Test.YtkbbgjloifmmbaaGreatDoorPf11
import Derived.Defers
import Derived.Recover
set_option linter.unusedVariables false
set_option maxRecDepth 100000
set_option maxHeartbeats 12800000
open _root_.Go.Proofs.Tryz
open _root_.Go renaming World->aAX,Calls->aA7,Addr->aAZ,Value->aAY,Ending->aBp
open _root_.Option renaming some->aBf
open _root_.Except renaming ok->aBz,error->aBA
open _root_.Go.RowKit renaming Below->aAW
open _root_.Go.Instr renaming makeFunc->aBB
open _root_.Go.Exit renaming thenS->aBC
open _root_.Array renaming replicate->aBD
namespace Go.Proofs.YtkbbgjloifmmbaaGreatDoor
open Go.RowKit Go.Sort
variable{ag:Int}{L:List Tok}{B c k rb:Nat}{x:Nd}{a:Option aAZ}{s:Tx}{w:aAX}
theorem am9(R:dV w B rb ag s a c L k)(hsh: ∀t∈L,t.1.length<=s.length)(kN:aJ (L.drop k)≠[91])(hn:rj (aJ (L.drop k))=false):
 aA7 prog 350 #[.pointer (some ⟨rb,0,none⟩)] w (iW w B rb ag s a c L (fQ ag (L.drop k)) VT):=by
 obtain⟨-, -, -, -, -, hrb⟩:=R.cells;have htk:L≠[]->bk a<w.heap.size:=fun h=>R.toks.lt mH ah h
 have R0:=R.below (al w ke);have PK:=af (xo R0);unfold uw at PK;have LC:=af (fun(w:aAX) (R:dV w B rb ag s a c L k)=>abH R hsh);rw[ayr kN hn];have HR:=af R0;generalize aJ (L.drop k)=u at*;have z:((tx u).toList==[91])=false:=eD _ _ kN
 have hc:((tx u).toList==[])=true\/ ∃d,(((tx u).toList==[])=false/\(∀w,(Instr.index 9 (.string (tx u)) (.int .i64 0)).run prog w= .ok (.int .u8 d.toNat) w)/\bf d=false/\((d.toNat:Int)==45)=false):=by
  cases u with
  |nil=>left;rw[bU];rfl
  | cons d r=>
    right
    unfold rj at hn;rw[SZ]at hn;exact⟨d,eD _ _ aq,oU (d::r) d rfl,hn.1,by simpa using rG d 45 (aS hn.2)⟩
 cases hloc:jN (L.drop k)with
 | error l=>
   rw[hloc]at LC;simp only;rcases hc with z2|⟨d,z2,ix,hd,z3⟩
   ·have Q6:(tx u).toList.isEmpty=true:=by rw[<-Jc];exact z2
    go_in;go_wp2_with fail;refine PK.oo.mono ?_;rintro e w1 ⟨rfl,q⟩;have LC:=af (LC.oo _ (HR.oo.below q.cm));have S:=af ((St.new (St.refl w rb) ke).trans (bX (bw:=rb) q.cm));exact aeb
   have HD:=af hd
   have Q6:(tx u).toList.isEmpty=false:=by rw[<-Jc];exact z2
   go_in;go_wp2_with fail;refine PK.oo.mono ?_;rintro e w1 ⟨rfl,q⟩;have LC:=af (LC.oo _ (HR.oo.below q.cm));have S:=af ((St.new (St.refl w rb) ke).trans (bX (bw:=rb) q.cm))
   go_wp2_with (go_at_call 298;refine aK (mI d _) ?_;rw[HD.oo])
   exact anM
 | ok p=>
   obtain⟨x,r⟩:=p;rw[hloc]at LC;simp only;have aN:w.heap.size≠rb:=ah;have nG:=af (show L≠[]->bk a≠w.heap.size from fun h=>by have:=htk h;omega);rcases hc with z2|⟨d,z2,ix,hd,z3⟩
   ·have Q6:(tx u).toList.isEmpty=true:=by rw[<-Jc];exact z2
    go_in;go_wp2_with fail;refine PK.oo.mono ?_;rintro e w1 ⟨rfl,q⟩;have LC:=af (LC.oo _ (HR.oo.below q.cm));have S:=af (bX (bw:=rb) q.cm);go_wp2_with fail;refine LC.oo.mono ?_;rintro e w2 h;obtain⟨k2,rfl,⟨rfl,hx⟩,R3,S3⟩:=h.ez rfl;have b2:=j8 (S.oo.trans S3) hrb;have fz:=fun k=>(iE (S.oo.trans S3) (b:=w.heap.size) aq ah k).trans (cJ w _ _ k)
    exact aer
   have HD:=af hd
   have Q6:(tx u).toList.isEmpty=false:=by rw[<-Jc];exact z2
   go_in;go_wp2_with fail;refine PK.oo.mono ?_;rintro e w1 ⟨rfl,q⟩;have LC:=af (LC.oo _ (HR.oo.below q.cm));have S:=af (bX (bw:=rb) q.cm)
   go_wp2_with (go_at_call 298;refine aK (mI d _) ?_;rw[HD.oo])
   refine LC.oo.mono ?_;rintro e w2 h;obtain⟨k2,rfl,⟨rfl,hx⟩,R3,S3⟩:=h.ez rfl;have b2:=j8 (S.oo.trans S3) hrb;have fz:=fun k=>(iE (S.oo.trans S3) (b:=w.heap.size) aq ah k).trans (cJ w _ _ k)
   exact aer
theorem aW.set{b:Nat}{l:List aAY}(h:aW w b l)(k:Nat)(v:aAY):aW (w.setCell ⟨b,k,none⟩ v) b (l.set k v):=by
 refine⟨by simpa using h.1,fun j hj=>?_⟩;rw[Cc]at hj;have h1:=h.2 j hj
 by_cases e:k=j
 ·subst e
  rw[MR hj];rw[aV hj]at h1;exact aax _ _ _ h1
 rw[SX e,aav _ _ _ _ (by intro e2;injection e2 with _ e3;exact e e3)]
 exact h1
theorem aeV(w:aAX)(p q:aAZ)(v:aAY):(w.setCell p v).frozen? q=w.frozen? q:=BP _ _ _ _
structure sW(w w1:aAX)(B rb b5:Nat)(ag:Int)(s:Tx)(a:Option aAZ)(c:Nat)(L:List Tok)(k:Nat)(n:Int):Prop where
 rd:dV w1 B rb ag s a c L k
 st:St (w.alloc ke) w1 rb
 bx: ∃m:Int,aW w1 b5 [.int .i64 n,.int .i64 m,.string ⟨#[]⟩]
 f5: ∀j,w1.frozen? ⟨b5,j,none⟩=false
 lo:w.heap.size<b5
section
variable {w w1 w2:aAX} {B rb b5:Nat} {ag:Int} {s:Tx} {a:Option aAZ} {c:Nat} {L:List Tok} {k:Nat} {n:Int}
theorem sW.below(h:sW w w1 B rb b5 ag s a c L k n)(hb:aAW w1.heap.size w1 w2):sW w w2 B rb b5 ag s a c L k n:=by
 obtain⟨m,hm⟩:=h.bx;exact⟨h.rd.below hb,h.st.trans (bX hb),⟨m,hm.below hb⟩,fun j=>by rw[hb.frozen (p:=⟨b5,j,none⟩) hm.1];exact h.f5 j,h.lo⟩
theorem sW.put(h:sW w w1 B rb b5 ag s a c L k n)(hr:b5≠rb)(ht:L≠[]->bk a<w.heap.size)(m:Int):sW w (w1.setCell ⟨b5,1,none⟩ (.int .i64 m)) B rb b5 ag s a c L k n/\aW (w1.setCell ⟨b5,1,none⟩ (.int .i64 m)) b5 [.int .i64 n,.int .i64 m,.string ⟨#[]⟩]:=by
 obtain⟨m0,hm⟩:=h.bx;have hb:=hm.set 1 (.int .i64 m);exact⟨⟨h.rd.put hr (fun hL=>by have:=ht hL;have:=h.lo;omega) _ _,St.put h.st (by have:=h.lo;simp;omega) _ _,⟨m,hb⟩,fun j=>by rw[aeV];exact h.f5 j,h.lo⟩,hb⟩
end
def ahs(n:Int)(r:List Tok)(ro:Option Nat):PR Th:=match ro with
 |none=>.error r
 |some k=>.ok (⟨n,k,[]⟩,r.tail)
theorem awu(ag:Int)(m:Nat)(h:(m:Int)<dU ag):dy ag m≠[]:=by
 unfold dy;split
 ·next e=>
  subst e;have h2:m<15:=by unfold dU at h;rw[ak rfl]at h;omega
  have: ∀k:Fin 15,cg k.1≠[]:=ay;exact this ⟨m,h2⟩
 simp[cZ]
theorem awz(ag:Int):dX ag []=none:=by
 unfold dX;rw[I7];intro m hm;simp[awu ag m (by have:=Cg.1 hm;omega)]
theorem awy{l:Tx}{j:Nat}(h:dX ag l=some j):l≠[]:=fun e=>by rw[e,awz]at h;cases h
theorem am8(R:dV w B rb ag s a c L k)(hsh: ∀t∈L,t.1.length<=s.length)(g:Gl w)(kN:aJ (L.drop k)≠[91])(hn:rj (aJ (L.drop k))=true):
 aA7 prog 350 #[.pointer (some ⟨rb,0,none⟩)] w (iW w B rb ag s a c L (fQ ag (L.drop k)) VT):=by
 obtain⟨-, -, -, -, -, hrb⟩:=R.cells;have htk:L≠[]->bk a<w.heap.size:=fun h=>R.toks.lt mH ah h
 have R0:=R.below (al w ke);have g0:=g.below (al w ke);have PK:=af (xo R0);unfold uw at PK;have IC:=af (fun(w:aAX) (R:dV w B rb ag s a c L k) (g:Gl w)=>abE R hsh 0 15 ay ay g);have TK:=af (fun(w:aAX) (k':Nat) (R:dV w B rb ag s a c L k')=>Ct R [58] ay);rw[ayq kN hn];have HR:=af R0;generalize aJ (L.drop k)=u at*;have z:((tx u).toList==[91])=false:=eD _ _ kN
 obtain⟨d,r0,rfl,hd⟩: ∃d r,u=d::r/\(bf d||d==45)=true:=by
  cases u with
  |nil=>cases hn
  |cons d r=>exact⟨d,r,rfl,hn⟩
 have z2:((tx (d::r0)).toList==[])=false:=eD _ _ aq;have Q6:(tx (d::r0)).toList.isEmpty=false:=by rw[<-Jc];exact z2
 have ix:=oU (d::r0) d rfl;generalize tx (d::r0)=u at*;obtain⟨b,hb⟩:=aF (bf d);have HD:=af hb
 have z3:b=false->((d.toNat:Int)==45)=true:=fun h=>by
  subst h;rw[hb,pZ]at hd;have:d=45:=aS hd;rw[this];decide
 have AL:w.heap.size≠rb:=ah;have nG:=af (show L≠[]->bk a<w.heap.size from htk)
 have main: ∀(p:PR Int),lq 0 15 (L.drop k)=p->aA7 prog 350 #[.pointer (some ⟨rb,0,none⟩)] w (iW w B rb ag s a c L (match p with
  | .error e=>.error e
  | .ok (n,r)=>match bQ [58] r with
    | .error e=>.error e
    | .ok r=>match dX ag (aJ r)with
      |none=>.error r
      |some k=>.ok (⟨n,k,[]⟩,r.tail)) VT):=by
  intro p hp;rw[hp]at IC;cases p with
  | error l=>
    simp only;cases b
    all_goals
     (try have z3:=z3 rfl)
     go_in;go_wp2_with fail;refine PK.oo.mono ?_;rintro e w1 ⟨rfl,q⟩;have IC:=af (IC.oo _ (HR.oo.below q.cm) (g0.below q.cm));have S:=af ((St.new (St.refl w rb) ke).trans (bX (bw:=rb) q.cm))
     go_wp2_with (go_at_call 298;refine aK (mI d _) ?_;rw[HD.oo])
     refine IC.oo.mono ?_;rintro e w2 h;obtain⟨rfl,S3⟩:=h.err rfl;unfold jw;go_wp2_with fail;exact⟨rfl,S.oo.trans S3,.inl ⟨_,rfl,rfl⟩⟩
  | ok q=>
    obtain⟨n,r⟩:=q;simp only;cases ae9:bQ [58] r with
    | error l=>
      simp only;cases b
      all_goals
       (try have z3:=z3 rfl)
       go_in;go_wp2_with fail;refine PK.oo.mono ?_;rintro e w1 ⟨rfl,q⟩;have IC:=af (IC.oo _ (HR.oo.below q.cm) (g0.below q.cm));have S:=af (bX (bw:=rb) q.cm)
       go_wp2_with (go_at_call 298;refine aK (mI d _) ?_;rw[HD.oo])
       refine IC.oo.mono ?_;rintro e w2 h;obtain⟨k2,rfl,hv,R3,S3⟩:=h.ez rfl;unfold VI at hv;subst hv;have TC:=af (TK.oo _ k2 (R3.below (al _ (.cells #[.int .i64 n,.int .i64 0,.string ⟨#[]⟩] 25))));have HT:=af ae9;have Dc:rb<w2.heap.size:=R3.cells.2.2.2.2.2;have hs2:=(S.oo.trans S3).grown.size;have S:=af (St.new (S.oo.trans S3) (.cells #[.int .i64 n,.int .i64 0,.string ⟨#[]⟩] 25));go_wp2_with fail;refine TC.oo.mono ?_;rintro e w3 h;obtain⟨rfl,S4⟩:=h.err (show _=aBA l by rw[HT.oo];rfl);unfold jw;go_wp2_with fail;exact⟨rfl,(St.new (St.refl w rb) ke).trans (S.oo.trans S4),.inl ⟨_,rfl,rfl⟩⟩
    | ok r2=>
      simp only;obtain⟨ro,hro⟩:=aF (dX ag (aJ r2));rw[hro];show aA7 _ _ _ _ (iW w B rb ag s a c L (ahs n r2 ro) VT);cases b
      all_goals
       (try have z3:=z3 rfl)
       go_in;go_wp2_with fail;refine PK.oo.mono ?_;rintro e w1 ⟨rfl,q⟩;have IC:=af (IC.oo _ (HR.oo.below q.cm) (g0.below q.cm));have S:=af (bX (bw:=rb) q.cm)
       go_wp2_with (go_at_call 298;refine aK (mI d _) ?_;rw[HD.oo])
       refine IC.oo.mono ?_;rintro e w2 h;obtain⟨k2,rfl,hv,R3,S3⟩:=h.ez rfl;unfold VI at hv;subst hv;have TC:=af (TK.oo _ k2 (R3.below (al _ (.cells #[.int .i64 n,.int .i64 0,.string ⟨#[]⟩] 25))));have HT:=af ae9;have Dc:rb<w2.heap.size:=R3.cells.2.2.2.2.2;have hs2:=(S.oo.trans S3).grown.size;have S:=af (St.new (S.oo.trans S3) (.cells #[.int .i64 n,.int .i64 0,.string ⟨#[]⟩] 25));go_wp2_with fail;refine TC.oo.mono ?_;rintro e w3 h;obtain⟨k3,rfl,hv,R5,S4⟩:=h.ez (show _=aBz ((),r2) by rw[HT.oo];rfl);unfold VU at hv;subst hv;have N2:sW w w3 B rb w2.heap.size ag s a c L k3 n:=⟨R5,S.oo.trans S4,⟨0,j8 S4 Dc⟩,fun j=>(iE S4 (b:=w2.heap.size) aq ah j).trans (cJ w2 _ _ j),by simp at hs2;omega⟩;have vY:=af (fun(w:aAX) (R:dV w B rb ag s a c L k3)=>xo R);unfold uw at vY;obtain⟨v,hv⟩:=aF (aJ (L.drop k3));rw[hv]at vY;have RO:=af (fun w=>am2 ag v w);rw[<-hv,hro,hv]at RO;have RH:=af hro;have VQ:w2.heap.size≠rb:=ah;have N2:=N2.below (below_drewN w3 1);have N2:sW w w3.drew B rb w2.heap.size ag s a c L k3 n:=N2;have c0:=N2.rd.cells.1;obtain⟨m,hm⟩:=N2.bx;have p1:=hm.get 1 _ rfl;have f1:=N2.f5 1;go_wp2_with fail
       go_region_held3 (fun w'=>sW w w' B rb w2.heap.size ag s a c L k3 n/\w'.cell? ⟨rb,0,none⟩=some (.int .i64 ag)) (first|exact⟨by assumption,by assumption⟩|exact⟨(sW.put (by assumption) VQ nG.oo _).1,(sW.put (by assumption) VQ nG.oo _).1.rd.cells.1⟩)
        (first
         |(go_at_call 236;refine(vY.oo _ N2.rd).mono ?_;rintro e w' ⟨rfl,q⟩;have N2:=N2.below q.cm;have c0:=N2.rd.cells.1;obtain⟨m,hm⟩:=N2.bx;have p1:=hm.get 1 _ rfl;have f1:=N2.f5 1)
         |(go_at_call 357;refine aQ (RO.oo _) fun w' E'=>?_;have N2:=N2.below E';have c0:=N2.rd.cells.1;obtain⟨m,hm⟩:=N2.bx;have p1:=hm.get 1 _ rfl;have f1:=N2.f5 1))
       obtain⟨N3,b3⟩:=sW.put N2 VQ nG.oo (KM ro);revert N3 b3;generalize w'.setCell ⟨w2.heap.size,1,none⟩ (.int .i64 (KM ro))=w5;intro N3 b3;have R3:=N3.rd;obtain⟨c0,c1,c2,c3,f3,lt⟩:=R3.cells;obtain⟨q0,q1,q2⟩:=b3.tI;have HN:=af N3;have FL:=af (JA R3);have b2:=j8 N3.st hrb;have fz:=fun j=>(iE N3.st (b:=w.heap.size) aq ah j).trans (cJ w _ _ j)
       obtain⟨p0,p1,p2⟩:=b2.tI;cases ro with
       | none=>
         have zo:KM none= -1:=rfl;rw[zo]at q1;go_wp2_with fail;refine FL.oo.mono ?_;rintro e w6 ⟨rfl,q⟩;unfold jw;go_wp2_with fail;exact⟨rfl,(St.new (St.refl w rb) ke).trans (HN.oo.st.trans (bX q.cm)),.inl ⟨_,rfl,rfl⟩⟩
       | some j=>
         have zo:KM (some j)=(j:Int):=rfl;rw[zo]at q1;have zl:decide ((j:Int)<0)=false:=aq;have uQ:=AF (awy RH.oo);obtain⟨R6,S6⟩:=HN.oo.rd.next uQ;have HR6:=af R6;have HS6:=af S6;have hsm:=HN.oo.rd.sm;have aN:w.heap.size≠rb:=ah;have ig:=af (show L≠[]->bk a≠w.heap.size from fun h=>by have:=nG.oo h;omega);go_wp2_with fail;exact aZ (by simp[results,results350,go_sem,p0,p1,p2,dP]) rfl ⟨St.put (St.put (St.put ((St.new (St.refl w rb) ke).trans (HN.oo.st.trans HS6.oo)) (aX _) _ _) (aX _) _ _) (aX _) _ _,.inr ⟨⟨n,j,[]⟩,k3+1,by simp[ahs],⟨rfl,aq⟩,((HR6.oo.put aN ig.oo _ _).put aN ig.oo _ _).put aN ig.oo _ _⟩⟩
 exact main _ rfl
inductive cI(w:aAX)(B:Nat):Nd->Prop where
 |mk (x:Nd) (hl:x.th.aj.length<=262144) (hn:x.aP.length<=1000000) (ho:nH w B x.a x.aP.length x.c x.aP) (h: ∀k∈x.aP,cI w B k):cI w B x
theorem cI.aj(h:cI w B x):x.th.aj.length<=262144:=by cases h;assumption
theorem cI.few(h:cI w B x):x.aP.length<=1000000:=by cases h;assumption
theorem cI.own(h:cI w B x):nH w B x.a x.aP.length x.c x.aP:=by cases h;assumption
theorem cI.gZ(h:cI w B x): ∀k∈x.aP,cI w B k:=by cases h;assumption
def Jq(a:Option aAZ):List Nat:=match a with
 |none=>[]
 |some p=>[p.block]
mutual
def jF:Nd->List Nat
 | .mk _ _ _ a _ l=>Jq a++pH l
def pH:List Nd->List Nat
 |[]=>[]
 |x::r=>jF x++pH r
end
theorem Js(x:Nd):jF x=Jq x.a++pH x.aP:=by cases x;rw[jF];rfl
theorem Nr:pH []=[]:=by rw[pH]
theorem Jr(x:Nd)(r:List Nd):pH (x::r)=jF x++pH r:=by rw[pH]
theorem aa0: ∀(l r:List Nd),pH (l++r)=pH l++pH r
 |[],r=>by simp[Nr]
 |x::l,r=>by rw[cY,Jr,Jr,aa0 l r,dA]
theorem Ns(x:Nd):pH [x]=jF x:=by rw[Jr,Nr,jD]
theorem Xw{b:Nat}: ∀{l:List Nd},b∈pH l-> ∃k∈l,b∈jF k
 |[],h=>by rw[Nr]at h;cases h
 | x::r,h=>by
   rw[Jr,fc]at h;rcases h with h|h
   ·exact⟨x,I8,h⟩
   obtain⟨k,hk,hb⟩:=Xw h;exact⟨k,zW _ hk,hb⟩
theorem WA{b:Nat}{k:Nd}: ∀{l:List Nd},k∈l->b∈jF k->b∈pH l
 | x::r,h,hb=>by
   rw[Jr,fc];rcases cq.1 h with rfl|h
   ·exact .inl hb
   exact .inr (WA h hb)
theorem cI.lt{w:aAX}{B:Nat}: ∀{x:Nd},cI w B x-> ∀b∈jF x,B<=b/\b<w.heap.size:=by
 intro x
 induction x using Nd.ind with
 | h x ih=>
   intro h b hb;rw[Js,fc]at hb;rcases hb with hb|hb
   ·cases ha:x.a with
    |none=>rw[ha]at hb;cases hb
    | some p=>
      rw[ha]at hb;have hp:b=p.block:=by simpa[Jq]using hb
      have:=au.lt h.own (by rw[ha];simp);rw[ha]at this;rw[hp];exact this
   obtain⟨k,hk,hb⟩:=Xw hb
   exact ih k hk (h.gZ k hk) b hb
theorem cI.kept{w w':aAX}{B:Nat}{r:Option Nat}(hg:w.grownBy w' r): ∀{x:Nd},cI w B x->(∀b∈jF x,some b≠r)->cI w' B x:=by
 intro x
 induction x using Nd.ind with
 | h x ih=>
   intro h hb;refine⟨x,h.aj,h.few,au.kept h.own hg ?_,fun k hk=>ih k hk (h.gZ k hk) fun b hb'=>hb b ?_⟩
   ·cases ha:x.a with
    |none=>exact .inl rfl
    |some p=>exact .inr (hb _ (by rw[Js,ha];simp[Jq,bk]))
   rw[Js,fc];exact .inr (WA hk hb')
theorem cI.keep{w w':aAX}{B:Nat}(hb:aAW w.heap.size w w'): ∀{x:Nd},cI w B x->cI w' B x:=by
 intro x
 induction x using Nd.ind with
 |h x ih=>intro h;exact⟨x,h.aj,h.few,au.below h.own hb,fun k hk=>ih k hk (h.gZ k hk)⟩
theorem cI.mono{w:aAX}{B B':Nat}(hB:B'<=B): ∀{x:Nd},cI w B x->cI w B' x:=by
 intro x
 induction x using Nd.ind with
 |h x ih=>intro h;exact⟨x,h.aj,h.few,au.mono h.own hB,fun k hk=>ih k hk (h.gZ k hk)⟩
theorem cI.st{w w':aAX}{B rb:Nat}{x:Nd}(h:cI w B x)(hs:St w w' rb)(hr:rb<B):cI w' B x:=
 cI.kept hs.grown h fun b hb e=>by
  have:=(h.lt b hb).1;simp at e;omega
theorem nH.els{w:aAX}{B n c:Nat}{a:Option aAZ}{l:List Nd}(h:nH w B a n c l)(hl:l.length<=1000000):cQ cN w a l:=by
 refine⟨au.row h,?_⟩;omega
theorem cI.su{w:aAX}{B:Nat}: ∀{x:Nd},cI w B x->fZ w x:=by
 intro x
 induction x using Nd.ind with
 | h x ih=>
   intro h;exact⟨x,by have:=h.aj;omega,nH.els h.own h.few,h.own.cap.1,fun k hk=>ih k hk (h.gZ k hk)⟩
structure iM(w:aAX)(B:Nat)(a:Option aAZ)(c:Nat)(l:List Nd):Prop where
 own:nH w B a l.length c l
 aP: ∀k∈l,cI w B k
 nd:(bk a::pH l).Nodup
 ne:a≠none
def VN(B:Nat)(x:Nd)(e:aBp)(w:aAX):Prop:= ∃y,bO y=x/\e= .returned (vN y)/\cI w B y/\(jF y).Nodup
section
variable {w w1 w2:aAX} {B rb:Nat} {a a':Option aAZ} {c c':Nat} {l:List Nd} {x:Nd}
theorem iM.lt(h:iM w B a c l):B<=bk a/\bk a<w.heap.size:=au.lt h.own h.ne
theorem iM.all(h:iM w B a c l): ∀b∈pH l,B<=b/\b<w.heap.size:=fun b hb=>by
 obtain⟨k,hk,h2⟩:=Xw hb;exact(h.aP k hk).lt b h2
theorem iM.below(h:iM w B a c l)(hb:aAW w.heap.size w w1):iM w1 B a c l:=
 ⟨au.below h.own hb,fun k hk=>(h.aP k hk).keep hb,h.nd,h.ne⟩
theorem iM.st(h:iM w B a c l)(hs:St w w1 rb)(hr:rb<B):iM w1 B a c l:=by
 refine⟨au.kept h.own hs.grown (.inr ?_),fun k hk=>(h.aP k hk).st hs hr,h.nd,h.ne⟩;have:=h.lt.1;simp;omega
theorem iM.mono{B':Nat}(h:iM w B a c l)(hB:B'<=B):iM w B' a c l:=
 ⟨au.mono h.own hB,fun k hk=>(h.aP k hk).mono hB,h.nd,h.ne⟩
theorem iM.one(ho:cI w B x)(hn:(jF x).Nodup)(hB:B<=w.heap.size):iM (w.alloc (bY x)) B (aBf ⟨w.heap.size,0,none⟩) 1 [x]:=by
 refine⟨au.mono (au.arc w x) hB,fun k hk=>?_,?_,aq⟩
 ·rw[kJ.1 hk];exact ho.keep (al _ _)
 rw[Ns,Jd]
 refine⟨fun hb=>?_,hn⟩;have:=(ho.lt _ hb).2;simp only[jW]at this;omega
theorem iM.app(h:iM w B a c l)(hB:B<=w.heap.size)(hs:St w w1 rb)(hr:rb<B)(ho:cI w1 w.heap.size x)(hn:(jF x).Nodup)(hO:nH w2 B a' (l++[x]).length c' (l++[x]))(hg:mS w1 w2 a c a' c')(ha':a'≠none):iM w2 B a' c' (l++[x])/\St w1 w2 (bk a):=by
 have h1:=h.st hs hr;have aA:=h.lt;have hsz:=hs.grown.size
 obtain⟨p,hp⟩: ∃p,a=aBf p:=by
  cases a with
  |none=>exact absurd rfl h.ne
  |some p=>exact⟨p,rfl⟩
 have hgr:w1.grownBy w2 (aBf (bk a)):=by
  have:=hg.step.grown;rw[hp]at this⊢;exact this
 have hnd:=h.nd;rw[Jd]at hnd;refine⟨⟨hO,fun k hk=>?_,?_,ha'⟩,⟨by simpa using hgr,.inl rfl⟩⟩
 ·rcases fc.1 hk with hk|hk
  ·refine(h1.aP k hk).kept hgr fun b hb e=>?_
   simp at e;subst e;exact hnd.1 (WA hk hb)
  rw[kJ.1 hk]
  refine(ho.mono hB).kept hgr fun b hb e=>?_
  simp at e;subst e;have:=(ho.lt _ hb).1;omega
 rw[aa0,Ns,Jd,List.nodup_append]
 refine⟨fun hb=>?_,hnd.2,hn,fun b1 eW b2 eG e=>?_⟩
 ·rcases hg with⟨rfl,-, -⟩|⟨hge, -⟩
  ·rcases fc.1 hb with hb|hb
   ·exact hnd.1 hb
   have:=(ho.lt _ hb).1;omega
  rcases fc.1 hb with hb|hb
  ·have:=(h.all _ hb).2;omega
  have:=(ho.lt _ hb).2;omega
 have h3:=(h.all _ eW).2
 have h4:=(ho.lt _ eG).1;omega
theorem iM.node(h:iM w B a c l)(k:Int)(t:Th)(v:Int)(ht:t.aj.length<=262144)(hl:l.length<=1000000):cI w B (.mk k t v a c l)/\(jF (.mk k t v a c l)).Nodup:=by
 refine⟨⟨_,ht,hl,h.own,h.aP⟩,?_⟩;rw[Js];have:=h.nd;cases a with
 |none=>exact absurd rfl h.ne
 |some p=>exact this
theorem cI.leaf(w:aAX)(B:Nat)(k:Int)(t:Th)(v:Int)(ht:t.aj.length<=262144):cI w B (.mk k t v none 0 [])/\(jF (.mk k t v none 0 [])).Nodup:=
 ⟨⟨_,ht,by simp[Nd.aP],au.nil _ _ _ _,fun k hk=>absurd hk (by simp[Nd.aP])⟩,by rw[Js];simp[Jq,Nd.a,Nd.aP,Nr]⟩
theorem iM.QG(h:iM w B a c [x]):cI w B x/\(jF x).Nodup:=by
 refine⟨h.aP x aq,?_⟩;have:=h.nd;rw[Ns,Jd]at this;exact this.2
end
theorem avU{w:aAX}{B rb:Nat}{ag:Int}{s:Tx}{a:Option aAZ}{c:Nat}{L:List Tok}{k:Nat}(R:dV w B rb ag s a c L k)(hsh: ∀t∈L,t.1.length<=s.length)(g:Gl w):
 aA7 prog 350 #[.pointer (some ⟨rb,0,none⟩)] w (iW w B rb ag s a c L (fQ ag (L.drop k)) VT):=by
 by_cases kN:aJ (L.drop k)=[91]
 ·exact am7 R hsh kN
 cases hn:rj (aJ (L.drop k))with
 |true=>exact am8 R hsh g kN hn
 |false=>exact am9 R hsh kN hn
theorem Qw{k:Int}{sign:Tx}{one:List Tok->PR Nd}{n:Nat}{aD:List Nd}{l:List Tok}(h:aJ l=sign):ja k sign one (n+1) aD l=match one l.tail with
 | .error e=>.error e
 | .ok (x,r)=>ja k sign one n (aD++[x]) r:=by rw[ja,ak h];cases one l.tail<;>rfl
theorem Be{k:Int}{sign:Tx}{one:List Tok->PR Nd}{n:Nat}{aD:List Nd}{l:List Tok}(h:aJ l≠sign):ja k sign one n aD l= .ok (vq k aD,l):=by
 cases n with
 |zero=>rfl
 |succ n=>rw[ja,ai h]
theorem awW{k:Int}{sign:Tx}{one:List Tok->PR Nd}{l e:List Tok}(h:one l= .error e):jc k sign one l= .error e:=by unfold jc;rw[h]
theorem awX{k:Int}{sign:Tx}{one:List Tok->PR Nd}{l r:List Tok}{x:Nd}(h:one l= .ok (x,r)):jc k sign one l=ja k sign one r.length [x] r:=by unfold jc;rw[h]
theorem ahp{k:Int}{l:List Nd}(h:l.length≠1):vq k l=A0 k l:=by
 match l with
 |[]=>rfl
 |[x]=>exact absurd rfl h
 |x::y::r=>rfl
structure eR(w0 w:aAX)(rb:Nat)(ag:Int)(s:Tx)(a:Option aAZ)(c:Nat)(L:List Tok)(k:Nat):Prop where
 rd:dV w w0.heap.size rb ag s a c L k
 g:Gl w0
 cF:aAW w0.heap.size w0 w
 sh: ∀t∈L,t.1.length<=s.length
section
variable {w0 w w1:aAX} {rb:Nat} {ag:Int} {s:Tx} {a:Option aAZ} {c:Nat} {L:List Tok} {k k1:Nat}
theorem eR.gl(h:eR w0 w rb ag s a c L k):Gl w:=h.g.below h.cF
theorem eR.lo(h:eR w0 w rb ag s a c L k):w0.heap.size<=rb/\rb<w.heap.size:=by
 have:=au.lt h.rd.own aq;simpa using this
theorem eR.below(h:eR w0 w rb ag s a c L k)(hb:aAW w.heap.size w w1):eR w0 w1 rb ag s a c L k:=
 ⟨h.rd.below hb,h.g,aI h.cF hb,h.sh⟩
theorem eR.st(h:eR w0 w rb ag s a c L k)(hs:St w w1 rb)(hr:dV w1 w0.heap.size rb ag s a c L k1):eR w0 w1 rb ag s a c L k1:=
 ⟨hr,h.g,h.cF.grown hs.grown h.cF.size (fun r hr=>by simp at hr;subst hr;exact h.lo.1),h.sh⟩
theorem eR.next(h:eR w0 w rb ag s a c L k)(hk:k<L.length):eR w0 (w.setCell ⟨rb,3,none⟩ (.int .i64 ((k:Int)+1))) rb ag s a c L (k+1):=by
 obtain⟨R2,S2⟩:=h.rd.next hk;exact h.st S2 R2
end
theorem ae3{w w':aAX}{b:Nat}(hg:w.grownBy w' (aBf b)):Step w w' (aBf ⟨b,0,none⟩) (aBf ⟨b,0,none⟩):=⟨hg,.inl rfl⟩
theorem eR.mj{w0 w w1:aAX}{rb b:Nat}{ag:Int}{s:Tx}{a:Option aAZ}{c:Nat}{L:List Tok}{k:Nat}(h:eR w0 w rb ag s a c L k)(hg:w.grownBy w1 (aBf b))(hb:b≠rb)(ha:L≠[]->bk a≠b)(hw:w0.heap.size<=b):eR w0 w1 rb ag s a c L k:=
 ⟨⟨au.kept h.rd.own hg (.inr (by simp;exact fun e=>hb e.symm)),cQ.step mH ah h.rd.toks (ae3 hg) ha,h.rd.ne,h.rd.le,h.rd.sm,h.rd.sl⟩,h.g,h.cF.grown hg h.cF.size (fun r hr=>by simp at hr;omega),h.sh⟩
theorem Az{w w':aAX}{b:Nat}(h:w.grownBy w' (aBf b))(j:Nat)(v:aAY):w.grownBy (w'.setCell ⟨b,j,none⟩ v) (aBf b):=
 ⟨h.os,h.tape,h.output,by simpa using h.size,fun k hk aN=>by rw[BU _ _ _ _ (by simp;exact fun e=>aN (by rw[e]))];exact h.block k hk aN⟩
theorem AA(w:aAX)(b:Nat):w.grownBy w (aBf b):=⟨rfl,rfl,rfl,aX _,fun k hk aN=>rfl⟩
theorem VN.fin{w0 w w1 w2:aAX}{rb:Nat}{ag:Int}{s:Tx}{a:Option aAZ}{c:Nat}{L:List Tok}{k:Nat}{o:Obj}{pp:PR Nd}{e:aBp}(hG:eR w0 w1 rb ag s a c L k)(hS:St (w.alloc o) w1 rb)(hg:w1.grownBy w2 (aBf w.heap.size))(hrb:rb<w.heap.size)(hT:L≠[]->bk a<w.heap.size)(y:Nd)(hN:cI w1 (w.heap.size+1) y)(hn:(jF y).Nodup)(hp:pp= .ok (bO y,L.drop k))(he:e= .returned (vN y)):iW w w0.heap.size rb ag s a c L pp (VN w.heap.size) e w2:=by
 have h0:=hG.lo.1;have h1:=hG.mj hg ah (fun h=>by have:=hT h;omega) ah;have hs:=(St.new (St.refl w rb) o).trans hS;refine⟨⟨⟨hg.os.trans hs.grown.os,hg.tape.trans hs.grown.tape,hg.output.trans hs.grown.output,dY hs.grown.size hg.size,fun j hj aN=>?_⟩,.inl rfl⟩,.inr ⟨_,k,hp,⟨y,rfl,he,?_,hn⟩,h1.rd⟩⟩
 ·rw[hg.block j (ou hj hs.grown.size) aC]
  exact hs.grown.block j hj aN
 refine(hN.mono (B':=w.heap.size) ah).kept hg fun b hb e=>?_
 exact Oi
def xS(F:Nat)(w0:aAX)(rb:Nat)(ag:Int)(s:Tx)(a:Option aAZ)(c:Nat)(L:List Tok)(m:Nat)(one:List Tok->PR Nd):Prop:=
 ∀(w:aAX) (k:Nat),eR w0 w rb ag s a c L k->(L.drop k).length<=m->aA7 prog F #[.pointer (some ⟨rb,0,none⟩)] w (iW w w0.heap.size rb ag s a c L (one (L.drop k)) (VN w.heap.size))
abbrev fR:Obj:=.cells #[.int .i64 0,.int .i64 0,.int .i64 0,.string ⟨#[]⟩,.int .i64 0,.slice none 0 0] 28
theorem axE{w w1 w2:aAX}{rb:Nat}{a a':Option aAZ}{c c':Nat}(h:St w w1 rb)(hg:mS w1 w2 a c a' c')(ha:a≠none)(hw:w.heap.size<=bk a):St w w2 rb:=by
 refine⟨⟨?_,?_,?_,?_,fun k hk aN=>?_⟩,.inl rfl⟩
 all_goals have h1:=h.grown
 all_goals have h2:=hg.step.grown
 ·exact h2.os.trans h1.os
 ·exact h2.tape.trans h1.tape
 ·exact h2.output.trans h1.output
 ·exact dY h1.size h2.size
 rw[h2.block k (ou hk h1.size) ?_,h1.block k hk aN]
 cases a with
 |none=>exact absurd rfl ha
 |some p=>have hw':w.heap.size<=p.block:=hw;simp;omega
theorem am4{F:Nat}(hF:F∈[300,332]){w0 w:aAX}{rb:Nat}{ag:Int}{s:Tx}{a:Option aAZ}{c:Nat}{L:List Tok}{k:Nat}{m:Nat}{one:List Tok->PR Nd}(R:eR w0 w rb ag s a c L k)(kd:Int)(sign:Tx)(hm:(L.drop k).length<=m)
 (ONE:xS F w0 rb ag s a c L m one) (er:List Tok) (hone:one (L.drop k)= .error er):
 aA7 prog 299 #[.pointer (some ⟨rb,0,none⟩),.int .i64 kd,.string (tx sign),.func (.func F) #[.pointer (some ⟨rb,0,none⟩)] #[]] w (iW w w0.heap.size rb ag s a c L (jc kd sign one (L.drop k)) (VN w.heap.size)):=by
 simp only[cq,qO,qK]at hF;rcases hF with rfl|rfl
 all_goals
  rw[awW hone];have O:=ONE _ k (R.below (al w fR)) hm;rw[hone]at O;have O:=af O;go_in;go_wp2_with fail;refine O.oo.mono ?_;exact anN
theorem abS{F:Nat}(hF:F∈[300,332]){w0 w:aAX}{rb:Nat}{ag:Int}{s:Tx}{a:Option aAZ}{c:Nat}{L:List Tok}{k:Nat}{m:Nat}{one:List Tok->PR Nd}(R:eR w0 w rb ag s a c L k)(kd:Int)(sign:Tx)(hs:sign≠[])(hm:(L.drop k).length<=m)
 (ONE:xS F w0 rb ag s a c L m one) (H: ∀l x r,l.length<=m->one l= .ok (x,r)->r.length<l.length):
 aA7 prog 299 #[.pointer (some ⟨rb,0,none⟩),.int .i64 kd,.string (tx sign),.func (.func F) #[.pointer (some ⟨rb,0,none⟩)] #[]] w (iW w w0.heap.size rb ag s a c L (jc kd sign one (L.drop k)) (VN w.heap.size)):=by
 simp only[cq,qO,qK]at hF;rcases hF with rfl|rfl
 all_goals
  cases hone:one (L.drop k)with
  |error er=>exact am4 ay R kd sign hm ONE er hone
  | ok p=>
    obtain⟨x,r⟩:=p;have hr:=H _ _ _ hm hone;have O:=ONE _ k (R.below (al w fR)) hm;rw[hone]at O;have O:=af O;rw[awX hone];have Ru:=af ONE;have HH:=af H;have HG:=af (R.below (al w fR));have hrb:=R.lo.2;have Pb:=R.lo.1;have HT:=af (show L≠[]->bk a<w.heap.size from fun h=>R.rd.toks.lt mH ah h);have hL:L.length<=262144:=R.rd.sm;have qV:r.length<m:=ah;obtain⟨pp,fX⟩:=aF (ja kd sign one r.length [x] r);rw[fX];have jS:=af fX;have HS:=af hs;have PK:=af (fun(w:aAX) (k':Nat) (R:dV w w0.heap.size rb ag s a c L k')=>xo R);have hrL:r.length<L.length:=by have h1:(L.drop k).length=L.length-k:=dG;omega
    go_in;go_wp2_with fail;refine O.oo.mono ?_;rintro e w1 h;obtain⟨k1,rfl,⟨y,hy,rfl,dm,iI⟩,R1,S1⟩:=h.ez rfl;have N1:=af (show iM (w1.alloc (bY y)) (w.heap.size+1) (aBf ⟨w1.heap.size,0,none⟩) 1 [y] by have h0:=iM.one dm iI S1.grown.size;simpa using h0);have G1:=af ((HG.oo.st S1 R1).below (al w1 (bY y)));have S1:=af (St.new S1 (bY y));have HY:=af (show fL [y]=[x] by rw[wG,qa,hy]);go_wp2
    go_loopw [9] (fun v wr=> ∃(k2:Nat) (a2:Option aAZ) (c2 n2:Nat) (l2:List Nd),v= .slice a2 l2.length c2/\Hid (pp=ja kd sign one n2 (fL l2) (L.drop k2))/\(L.drop k2).length<=n2/\(L.drop k2).length<=m/\l2.length+(L.drop k2).length<=L.length/\Hid (eR w0 wr rb ag s a c L k2)/\Hid (iM wr (w.heap.size+1) a2 c2 l2)/\Hid (St (w.alloc fR) wr rb)) (fun v _=>match v with| .slice _ n _=>300000-n|_=>0)
    ·exact⟨k1,_,_,(L.drop k1).length,[y],rfl,by rw[HY.oo];exact jS.oo.symm,aX _,ah,by simp only[yj];omega,G1.oo,N1.oo,S1.oo⟩
    obtain⟨k2,a2,c2,n2,l2,rfl,HP,hn2,hm2,gh,sP,iV,l7⟩:=hrel;have lo2:=sP.oo.lo;have hlo:=iV.oo.lt;have lP:(L.drop k2).length=L.length-k2:=dG;have hs1:w.heap.size+1<=wr.heap.size:=by have:=l7.oo.grown.size;simpa using this
    have vY:=af (PK.oo _ _ sP.oo.rd);unfold uw at vY
    by_cases jZ:aJ (L.drop k2)=sign
    ·rw[jZ]at vY
     have z:((tx sign).toList==(tx sign).toList)=true:=aq;have hk2:k2<L.length:=AF (by rw[jZ];exact HS.oo);obtain⟨n3,rfl⟩: ∃n3,n2=n3+1:=⟨n2-1,ah⟩;have fS:=af (HP.oo.trans (Qw jZ));rw[yb]at fS;have OG:(L.drop (k2+1)).length=L.length-(k2+1):=dG;have O2:=af (fun(w:aAX) (R:eR w0 w rb ag s a c L (k2+1))=>Ru.oo w (k2+1) R ah);cases Wf:one (L.drop (k2+1))with
     | error er=>
       rw[Wf]at fS O2;go_wp2_with fail;refine vY.oo.mono ?_;rintro e w2 ⟨rfl,q⟩;have G2:=sP.oo.below q.cm;obtain⟨c0,c1,oC,c3,f3,lt⟩:=G2.rd.cells;obtain⟨R3,S3⟩:=G2.rd.next hk2;have G3:=af (G2.st S3 R3);have S3:=af (l7.oo.trans ((bX q.cm).trans S3));go_wp2_with fail;refine(O2.oo _ G3.oo).mono ?_;rintro e w3 h;obtain⟨rfl,S4⟩:=h.err rfl;unfold jw;go_wp2;exact⟨rfl,(St.new (St.refl w rb) fR).trans (S3.oo.trans S4),.inl ⟨_,fS.oo,rfl⟩⟩
     | ok p2=>
       obtain⟨x2,r2⟩:=p2;rw[Wf]at fS O2;have hr2:=HH.oo _ _ _ ah Wf;go_wp2_with fail;refine vY.oo.mono ?_;rintro e w2 ⟨rfl,q⟩;have G2:=sP.oo.below q.cm;obtain⟨c0,c1,oC,c3,f3,lt⟩:=G2.rd.cells;obtain⟨R3,S3⟩:=G2.rd.next hk2;have G3:=af (G2.st S3 R3);have S3:=af ((bX (bw:=rb) q.cm).trans S3);have hq:=q.cm.size;go_wp2_with fail;refine(O2.oo _ G3.oo).mono ?_;rintro e w3 h;obtain⟨k3,rfl,⟨y2,hy2,rfl,dm,iI⟩,R4,S4⟩:=h.ez rfl;have G4:=af (G3.oo.st S4 R4);have S5:=S3.oo.trans S4;have N3:=iV.oo.st S5 ah;have hO:=N3.own;have hs3:=S5.grown.size;have dm:=af (dm.mono (B':=wr.heap.size) aC);have S5:=af S5
       go_wp2_with (at_builtin;go_loud(refine mR qo (.tmp 24) (.tmp 27) rfl rfl rfl hO rfl rfl (by exact Ue y2) (bS _ w3) ah ah dx ?_))
       intro a' c' w4 k9 hg mm
       have jJ:nH w4 (w.heap.size+1) a' (l2++[y2]).length c' (l2++[y2]):=by
        exact U9
       have ha':a'≠none:=au.some jJ aq;obtain⟨N4,S6⟩:=iV.oo.app ah S5.oo ah dm.oo iI jJ hg ha';have N4:=af N4;have S7:=af (axE (l7.oo.trans S5.oo) hg iV.oo.ne aC);have G5:=af (G4.oo.mj (show w3.grownBy w4 (aBf (bk a2))from S6.grown) ah (fun h=>by have:=HT.oo h;omega) ah);have Rw:=af (show pp=ja kd sign one n3 (fL (l2++[y2])) (L.drop k3) by rw[fS.oo,aaP,wG,qa,hy2]);go_wp2
       go_roundw;exact⟨k3,a',c',n3,l2++[y2],aq,Rw,ah,ah,by simp only[bu,yj];omega,G5,N4,S7⟩;simp;omega
    have z:((tx (aJ (L.drop k2))).toList==(tx sign).toList)=false:=by rw[bU,bU];simpa using jZ
    have fS:=af (HP.oo.trans (Be jZ));generalize aJ (L.drop k2)=u at*;obtain⟨n,hn⟩:=aF l2.length;have hl3:n<=1000000:=ah
    by_cases h1:n=1
    ·subst h1
     obtain⟨y,rfl⟩: ∃y,l2=[y]:=SK.1 hn;have EL:=nH.els iV.oo.own ah;have ix:=EL.idx qo nN 0 aq c2;rw[show((0:Nat):Int)=0 from rfl,hn]at ix;rw[hn];simp only[td,gK]at ix;go_wp2_with fail;refine vY.oo.mono ?_;rintro e w2 ⟨rfl,q⟩;have N2:=iV.oo.below q.cm;obtain⟨d0,d1,d2,d3,d4,d5⟩:=cQ.nd (k:=0) (nH.els N2.own ah) rfl;simp only[td,gK]at d0 d1 d2 d3 d4 d5;have S3:=l7.oo.trans (bX (bw:=rb) q.cm);have G3:=af (sP.oo.below q.cm);have b8:=j8 S3 hrb;have fz:=fun j=>(iE S3 (b:=w.heap.size) aq ah j).trans (cJ w _ _ j)
     obtain⟨p0,p1,p2,p3,p4,p5⟩:=b8.kK;have N2:=af N2;have S3:=af S3;go_wp2;exact aZ (by simp[results,results299,go_sem,p0,p1,p2,p3,p4,p5]) rfl (VN.fin G3.oo S3.oo (by(repeat refine Az ?_ _ _);exact AA _ _) hrb HT.oo y N2.oo.QG.1 N2.oo.QG.2 (by rw[fS.oo];rfl) rfl)
    have z1:((n:Int)==1)=false:=aC
    rw[hn];go_wp2_with fail;refine vY.oo.mono ?_;rintro e w2 ⟨rfl,q⟩;have N2:=iV.oo.below q.cm;have S3:=l7.oo.trans (bX (bw:=rb) q.cm);have G3:=af (sP.oo.below q.cm);have b8:=j8 S3 hrb;have fz:=fun j=>(iE S3 (b:=w.heap.size) aq ah j).trans (cJ w _ _ j)
    obtain⟨p0,p1,p2,p3,p4,p5⟩:=b8.kK;have N2:=af (N2.node kd dQ 0 ay ah);have S3:=af S3;go_wp2;exact aZ (by simp[results,results299,go_sem,p0,p1,p2,p3,p4,p5,hn,Nd.kind,Nd.th,dQ,Nd.val,Nd.a,Nd.c,Nd.aP,dP]) rfl (VN.fin G3.oo S3.oo (by(repeat refine Az ?_ _ _);exact AA _ _) hrb HT.oo (.mk kd dQ 0 a2 c2 l2) N2.oo.1 N2.oo.2 (by rw[fS.oo,Al,ahp (by rw[Jl,hn];exact h1)];rfl) rfl)
theorem amk{w0 w:aAX}{rb:Nat}{ag:Int}{s:Tx}{a:Option aAZ}{c:Nat}{L:List Tok}{k m n:Nat}(R:eR w0 w rb ag s a c L k)(hm:(L.drop k).length<=m)
 (ONE:xS 332 w0 rb ag s a c L m (cz ag n)):
 aA7 prog 300 #[.pointer (some ⟨rb,0,none⟩)] w (iW w w0.heap.size rb ag s a c L (jc 4 [47,92] (cz ag n) (L.drop k)) (VN w.heap.size)):=by
 have R0:=R.below (al w fR);have RW:=abS ay R0 4 [47,92] ay hm ONE (fun l x r _ h=>(vp ag n l x r h).2);have hrb:=R.lo.2;have HT:=af (show L≠[]->bk a<w.heap.size from fun h=>R.rd.toks.lt mH ah h);generalize jc 4 [47,92] (cz ag n) (L.drop k)=p at*;have R0:=af R0;cases p with
 | error er=>
   exact aet
 | ok q=>
   obtain⟨x,r⟩:=q;have RW:=af RW;go_in;go_wp2_with fail;refine RW.oo.mono ?_;rintro e w1 h;obtain⟨k1,rfl,⟨y,hy,rfl,dm,iI⟩,R1,S1⟩:=h.ez rfl;have b8:=j8 S1 hrb;have fz:=fun j=>(iE S1 (b:=w.heap.size) aq ah j).trans (cJ w _ _ j)
   obtain⟨p0,p1,p2,p3,p4,p5⟩:=b8.kK;have G1:=af (R0.oo.st S1 R1);have dm:=af dm;have S1:=af S1;go_wp2;exact aZ (by simp[results,results300,go_sem,p0,p1,p2,p3,p4,p5]) rfl (VN.fin G1.oo S1.oo (by(repeat refine Az ?_ _ _);exact AA _ _) hrb HT.oo y (aS dm.oo) iI (by rw[hy]) rfl)
theorem amL{w0 w:aAX}{rb:Nat}{ag:Int}{s:Tx}{a:Option aAZ}{c:Nat}{L:List Tok}{k m n:Nat}(R:eR w0 w rb ag s a c L k)(hm:(L.drop k).length<=m)
 (ONE:xS 300 w0 rb ag s a c L m (jc 4 [47,92] (cz ag n))):
 aA7 prog 238 #[.pointer (some ⟨rb,0,none⟩)] w (iW w w0.heap.size rb ag s a c L (jc 5 [92,47] (jc 4 [47,92] (cz ag n)) (L.drop k)) (VN w.heap.size)):=by
 have R0:=R.below (al w fR);have RW:=abS ay R0 5 [92,47] ay hm ONE (fun l x r _ h=>(G6 (.inl rfl) (vp ag n) l x r h).2);have hrb:=R.lo.2;have HT:=af (show L≠[]->bk a<w.heap.size from fun h=>R.rd.toks.lt mH ah h);generalize jc 5 [92,47] (jc 4 [47,92] (cz ag n)) (L.drop k)=p at*;have R0:=af R0;cases p with
 | error er=>
   exact aet
 | ok q=>
   obtain⟨x,r⟩:=q;have RW:=af RW;go_in;go_wp2_with fail;refine RW.oo.mono ?_;rintro e w1 h;obtain⟨k1,rfl,⟨y,hy,rfl,dm,iI⟩,R1,S1⟩:=h.ez rfl;have b8:=j8 S1 hrb;have fz:=fun j=>(iE S1 (b:=w.heap.size) aq ah j).trans (cJ w _ _ j)
   obtain⟨p0,p1,p2,p3,p4,p5⟩:=b8.kK;have G1:=af (R0.oo.st S1 R1);have dm:=af dm;have S1:=af S1;go_wp2;exact aZ (by simp[results,results238,go_sem,p0,p1,p2,p3,p4,p5]) rfl (VN.fin G1.oo S1.oo (by(repeat refine Az ?_ _ _);exact AA _ _) hrb HT.oo y (aS dm.oo) iI (by rw[hy]) rfl)
theorem abK{w0 w:aAX}{rb:Nat}{ag:Int}{s:Tx}{a:Option aAZ}{c:Nat}{L:List Tok}{k m n:Nat}(R:eR w0 w rb ag s a c L k)(hm:(L.drop k).length<=m)
 (NOT:xS 332 w0 rb ag s a c L m (cz ag n)):
 aA7 prog 238 #[.pointer (some ⟨rb,0,none⟩)] w (iW w w0.heap.size rb ag s a c L (jt (cz ag n) (L.drop k)) (VN w.heap.size)):=
 amL R hm fun w k R hm=>amk R hm NOT
structure bK(w w':aAX)(b:Nat):Prop where
 grown:w.grownBy w' (aBf b)
 size:w'.heap.size=w.heap.size
theorem bK.refl(w:aAX)(b:Nat):bK w w b:=⟨AA w b,rfl⟩
theorem bK.put{w w':aAX}{b:Nat}(h:bK w w' b)(j:Nat)(v:aAY):bK w (w'.setCell ⟨b,j,none⟩ v) b:=⟨Az h.grown j v,by simpa using h.size⟩
theorem Dp{w w':aAX}{b:Nat}(h:bK w w' b:=by(repeat with_reducible refine bK.put ?_ _ _);exact bK.refl _ _):bK w w' b:=h
theorem Gm{w w':World}{b:Nat}(h:bK w w' b:=by repeat(first|with_reducible exact bK.refl _ _|with_reducible refine bK.put ?_ _ _|with_reducible refine bK.drew ?_|with_reducible refine bK.al ?_ _)):bK w w' b:=h
theorem bK.al{w w':aAX}{b:Nat}(h:bK w w' b)(o:Obj):bK (w.alloc o) (w'.alloc o) b:=by
 refine⟨⟨h.grown.os,h.grown.tape,h.grown.output,by simp[h.size],fun k hk aN=>?_⟩,by simp[h.size]⟩;rw[gQ]at hk;rcases iA k w.heap.size with h1|h1
 ·rw[heap_alloc_old _ _ (by rw[h.size];exact h1),heap_alloc_old _ _ h1];exact h.grown.block k h1 aN
 obtain rfl:k=w.heap.size:=ah
 rw[lJ];rw[<-h.size,lJ]
theorem ag6{ag:Int}{n:Nat}{l:List Tok}(h:aJ l=[126]):cz ag (n+1) l=match cz ag n l.tail with
 | .error e=>.error e
 | .ok (x,r)=>.ok (A0 3 [x],r):=by rw[cz,ak h];cases cz ag n l.tail<;>rfl
theorem ag7{ag:Int}{n:Nat}{l:List Tok}(h:aJ l=[40]):cz ag (n+1) l=match jt (cz ag n) l.tail with
 | .error e=>.error e
 | .ok (x,r)=>match bQ [41] r with
   | .error e=>.error e
   | .ok r=>.ok (x,r):=by
 rw[cz,ai (by rw[h];decide),ak h];cases jt (cz ag n) l.tail with
 |error e=>rfl
 |ok p=>rfl
theorem ag8{ag:Int}{n:Nat}{l:List Tok}(h:aJ l=[116,114,117,101])(h2:aJ l.tail≠[61]):cz ag (n+1) l= .ok (A0 1 [],l.tail):=by
 rw[cz,ai (by rw[h];decide),ai (by rw[h];decide),ak ⟨h,h2⟩]
theorem ag9{ag:Int}{n:Nat}{l:List Tok}(h1:aJ l≠[126])(h2:aJ l≠[40])(h3:aJ l≠[116,114,117,101]\/aJ l.tail=[61]):cz ag (n+1) l=jU ag l:=by
 rw[cz,ai h1,ai h2,ai];rintro⟨a,b⟩;rcases h3 with h|h
 ·exact h a
 exact b h
section
variable {w0 w:aAX} {rb:Nat} {ag:Int} {s:Tx} {a:Option aAZ} {c:Nat} {L:List Tok} {k m n:Nat}
theorem amF(R:eR w0 w rb ag s a c L k)(hm:(L.drop k).length<=m+1)(NOT:xS 332 w0 rb ag s a c L m (cz ag n))(h1:aJ (L.drop k)=[126]):
 aA7 prog 332 #[.pointer (some ⟨rb,0,none⟩)] w (iW w w0.heap.size rb ag s a c L (cz ag (n+1) (L.drop k)) (VN w.heap.size)):=by
 have R0:=R.below (al w fR);have hk:=AF (L:=L) (k:=k) (by rw[h1];decide);have hd:(L.drop (k+1)).length<=m:=by simp at hm ⊢; omega
 have PK:=af (xo R0.rd);unfold uw at PK;rw[h1]at PK;rw[ag6 h1,yb];have NT:=af (fun(w:aAX) (R:eR w0 w rb ag s a c L (k+1))=>NOT w (k+1) R hd);have hrb:=R.lo.2;have HT:=af (show L≠[]->bk a<w.heap.size from fun h=>R.rd.toks.lt mH ah h);generalize cz ag n (L.drop (k+1))=p at*;have z:((tx [126]).toList==[126])=true:=by rw[bU];decide
 have hL:L.length<=262144:=R.rd.sm;generalize tx [126]=u at*;have R0:=af R0;have HK:=af hk;go_in;go_wp2_with fail;refine PK.oo.mono ?_;rintro e w1 ⟨rfl,q⟩;have R1:=R0.oo.below q.cm;obtain⟨c0,c1,c2,c3,f3,lt⟩:=R1.rd.cells;obtain⟨R2,S2⟩:=R1.rd.next HK.oo;have S:=af ((bX (bw:=rb) q.cm).trans S2);have hq:=q.cm.size;have G2:=af (R1.st S2 R2);have NT:=af (NT.oo _ G2.oo);go_wp2_with fail;refine NT.oo.mono ?_;rintro e w2 h;rcases p with er|⟨x,r⟩
 ·obtain⟨rfl,S3⟩:=h.err rfl
  exact aeu
 obtain⟨k1,rfl,⟨y,hy,rfl,dm,iI⟩,R3,S3⟩:=h.ez rfl;have S4:=S.oo.trans S3;have hsz:=S4.grown.size;have S5:=St.new S4 (bY y);have G3:=af ((G2.oo.st S3 R3).below (al w2 (bY y)));have N1:=iM.one (dm.mono (B':=w.heap.size+1) (by simp at hq ⊢; omega)) iI (by simp at hsz;omega);have N1:=af (N1.node 3 dQ 0 ay aq);have afo:w.heap.size<w2.heap.size:=by simp at hsz;omega
 have HB:Hid ((aBz (A0 3 [x],L.drop k1):PR Nd)= .ok (bO (.mk 3 dQ 0 (some ⟨w2.heap.size,0,none⟩) 1 [y]),L.drop k1)):=af (by
  rw[bO,wG,qa,hy];rfl)
 have b8:=j8 S4 hrb;have fz:=fun j=>(iE S4 (b:=w.heap.size) aq ah j).trans (cJ w _ _ j)
 obtain⟨p0,p1,p2,p3,p4,p5⟩:=b8.kK;have S5:=af S5;go_wp2;exact aZ (by simp[results,results332,go_sem,p0,p1,p2,p3,p4,p5,afo,Nd.kind,Nd.th,dQ,Nd.val,Nd.a,Nd.c,Nd.aP,dP]) rfl (VN.fin G3.oo S5.oo (bK.grown (by refine bK.al ?_ _;(repeat refine bK.put ?_ _ _);exact bK.refl _ _)) hrb HT.oo (.mk 3 dQ 0 (some ⟨w2.heap.size,0,none⟩) 1 [y]) N1.oo.1 N1.oo.2 HB.oo rfl)
theorem amG(R:eR w0 w rb ag s a c L k)(hm:(L.drop k).length<=m+1)(NOT:xS 332 w0 rb ag s a c L m (cz ag n))(h1:aJ (L.drop k)=[40]):
 aA7 prog 332 #[.pointer (some ⟨rb,0,none⟩)] w (iW w w0.heap.size rb ag s a c L (cz ag (n+1) (L.drop k)) (VN w.heap.size)):=by
 have R0:=R.below (al w fR);have hk:=AF (L:=L) (k:=k) (by rw[h1];decide);have hd:(L.drop (k+1)).length<=m:=by simp at hm ⊢; omega
 have PK:=af (fun(w:aAX) (R:dV w w0.heap.size rb ag s a c L k)=>xo R);unfold uw at PK;rw[h1]at PK;rw[ag7 h1,yb];have NT:=af (fun(w:aAX) (R:eR w0 w rb ag s a c L (k+1))=>abK R hd NOT);have TK:=af (fun(w:aAX) (k':Nat) (R:dV w w0.heap.size rb ag s a c L k')=>Ct R [41] ay);have hrb:=R.lo.2;have HT:=af (show L≠[]->bk a<w.heap.size from fun h=>R.rd.toks.lt mH ah h);generalize jt (cz ag n) (L.drop (k+1))=p at*;have z:((tx [40]).toList==[126])=false:=by rw[bU];decide
 have z2:((tx [40]).toList==[40])=true:=by rw[bU];decide
 have hL:L.length<=262144:=R.rd.sm;generalize tx [40]=u at*;have R0:=af R0;have HK:=af hk
 obtain⟨Z,hZ⟩: ∃Z,(match p with
  | .error e=>.error e
  | .ok (x,r)=>match bQ [41] r with
    | .error e=>.error e
    | .ok r=>.ok (x,r):PR Nd)=Z:=⟨_,rfl⟩
 rw[hZ];have HZ:=af hZ;go_in;go_wp2_with fail;refine(PK.oo _ R0.oo.rd).mono ?_;rintro e w1 ⟨rfl,q⟩;have R1:=af (R0.oo.below q.cm);have S:=af (bX (bw:=rb) q.cm);go_wp2_with fail;refine(PK.oo _ R1.oo.rd).mono ?_;rintro e w2 ⟨rfl,q⟩;have R1:=R1.oo.below q.cm;have hq:=R1.cF.size;obtain⟨c0,c1,c2,c3,f3,lt⟩:=R1.rd.cells;obtain⟨R2,S2⟩:=R1.rd.next HK.oo;have S:=af ((S.oo.trans (bX (bw:=rb) q.cm)).trans S2);have hsw:=S.oo.grown.size;have G2:=af (R1.st S2 R2);have NT:=af (NT.oo _ G2.oo);go_wp2_with fail;refine NT.oo.mono ?_;rintro e w3 h;rcases p with er|⟨x,r⟩
 ·obtain⟨rfl,S3⟩:=h.err rfl
  have HZ:=HZ.oo;simp only at HZ;subst HZ;exact aeu
 obtain⟨k1,rfl,⟨y,hy,rfl,dm,iI⟩,R3,S3⟩:=h.ez rfl;have G3:=af ((G2.oo.st S3 R3).below (al w3 (bY y)));have TC:=af (TK.oo _ k1 G3.oo.rd);have hs3:=S3.grown.size;have S4:=af (St.new (S.oo.trans S3) (bY y));have dm:=af (dm.mono (B':=w.heap.size+1) (by simp at hsw ⊢; omega));have afn:rb<w3.heap.size:=by simp at hsw hs3;omega
 go_wp2_with fail;refine TC.oo.mono ?_;rintro e w4 h;rcases htk:bQ [41] (L.drop k1)with er|r2
 ·obtain⟨rfl,S5⟩:=h.err (show _=aBA er by rw[htk];rfl)
  have HZ:=HZ.oo;simp only[htk]at HZ;subst HZ;have S6:=af (S4.oo.trans S5);unfold jw;go_wp2;exact⟨rfl,(St.new (St.refl w rb) fR).trans S6.oo,.inl ⟨_,rfl,rfl⟩⟩
 have HZ:=HZ.oo;simp only[htk]at HZ;subst HZ;obtain⟨k2,rfl,hv,R5,S5⟩:=h.ez (show _=aBz ((),r2) by rw[htk];rfl);unfold VU at hv;subst hv;have b3:=j8 S5 afn;have S6:=S4.oo.trans S5;have b8:=j8 S6 hrb;have hsz:=S6.grown.size;have fz:=fun j=>(iE S6 (b:=w.heap.size) aq ah j).trans (cJ w _ _ j)
 obtain⟨p0,p1,p2,p3,p4,p5⟩:=b8.kK;obtain⟨q0,q1,q2,q3,q4,q5⟩:=b3.kK;have G5:=af (G3.oo.st S5 R5);have dm:=af ((dm.oo.keep (al w3 (bY y))).st S5 ah);have S6:=af S6;go_wp2;exact aZ (by simp[results,results332,go_sem,p0,p1,p2,p3,p4,p5]) rfl (VN.fin G5.oo S6.oo (by(repeat refine Az ?_ _ _);exact AA _ _) hrb HT.oo y dm.oo iI (by rw[hy]) rfl)
end
section
variable {w0 w:aAX} {rb:Nat} {ag:Int} {s:Tx} {a:Option aAZ} {c:Nat} {L:List Tok} {k m n:Nat}
theorem ah4{w:aAX}{B:Nat}(R:dV w B rb ag s a c L k):aA7 prog 236 #[.pointer (some ⟨rb,0,none⟩),.int .i64 1] w (zU w (.string (tx (aJ (L.drop (k+1)))))):=JD R 1 ah
theorem amH(R:eR w0 w rb ag s a c L k)(h1:aJ (L.drop k)=[116,114,117,101])(h2:aJ (L.drop (k+1))≠[61]):
 aA7 prog 332 #[.pointer (some ⟨rb,0,none⟩)] w (iW w w0.heap.size rb ag s a c L (cz ag (n+1) (L.drop k)) (VN w.heap.size)):=by
 have R0:=R.below (al w fR);have hk:=AF (L:=L) (k:=k) (by rw[h1];decide);have PK:=af (fun(w:aAX) (R:dV w w0.heap.size rb ag s a c L k)=>xo R);unfold uw at PK;have Iz:=af (fun(w:aAX) (R:dV w w0.heap.size rb ag s a c L k)=>ah4 R);rw[h1]at PK;rw[ag8 h1 (by rw[yb];exact h2),yb];have hrb:=R.lo.2;have Pb:=R.lo.1;have HT:=af (show L≠[]->bk a<w.heap.size from fun h=>R.rd.toks.lt mH ah h);have hL:L.length<=262144:=R.rd.sm;have HSH:=af R.sh;have z:((tx [116,114,117,101]).toList==[126])=false:=by rw[bU];decide
 have z2:((tx [116,114,117,101]).toList==[40])=false:=by rw[bU];decide
 have z3:((tx [116,114,117,101]).toList==[116,114,117,101])=true:=by rw[bU];decide
 have z4:((tx (aJ (L.drop (k+1)))).toList==[61])=false:=eD _ _ h2;generalize tx [116,114,117,101]=u at*;generalize tx (aJ (L.drop (k+1)))=v at*;have R0:=af R0;have HK:=af hk;go_in;go_wp2_with fail;refine(PK.oo _ R0.oo.rd).mono ?_;rintro e w1 ⟨rfl,q⟩;have R1:=af (R0.oo.below q.cm);have S:=af (bX (bw:=rb) q.cm);go_wp2_with fail;refine(PK.oo _ R1.oo.rd).mono ?_;rintro e w2 ⟨rfl,q⟩;have R2:=af (R1.oo.below q.cm);have S:=af (S.oo.trans (bX (bw:=rb) q.cm));go_wp2_with fail;refine(PK.oo _ R2.oo.rd).mono ?_;rintro e w3 ⟨rfl,q⟩;have R3:=af (R2.oo.below q.cm);have S:=af (S.oo.trans (bX (bw:=rb) q.cm));go_wp2_with fail;refine(Iz.oo _ R3.oo.rd).mono ?_;rintro e w4 ⟨rfl,q⟩;have R3:=af (R3.oo.below q.cm);have S:=af (S.oo.trans (bX (bw:=rb) q.cm));obtain⟨c0,c1,c2,c3,f3,lt⟩:=R3.oo.rd.cells;obtain⟨R4,S4⟩:=R3.oo.rd.next HK.oo;have S5:=S.oo.trans S4;have b8:=j8 S.oo hrb;have fz:=fun j=>(iE S.oo (b:=w.heap.size) aq ah j).trans (cJ w _ _ j)
 obtain⟨p0,p1,p2,p3,p4,p5⟩:=b8.kK;have aN:w.heap.size≠rb:=ah;have G5:=af (R3.oo.st S4 R4);have S5:=af S5;go_wp2;exact aZ (by simp[results,results332,go_sem,p0,p1,p2,p3,p4,p5,Nd.kind,Nd.th,dQ,Nd.val,Nd.a,Nd.c,Nd.aP,dP]) rfl (VN.fin G5.oo S5.oo (bK.grown Dp) hrb HT.oo (.mk 1 dQ 0 none 0 []) (cI.leaf _ _ 1 dQ 0 ay).1 (cI.leaf w1 0 1 dQ 0 ay).2 (by rw[bO,qa];rfl) rfl)
theorem Uw(R:eR w0 w rb ag s a c L k)(h1:aJ (L.drop k)≠[126])(h2:aJ (L.drop k)≠[40])(h3:aJ (L.drop k)≠[116,114,117,101]\/aJ (L.drop (k+1))=[61]):
 aA7 prog 332 #[.pointer (some ⟨rb,0,none⟩)] w (iW w w0.heap.size rb ag s a c L (cz ag (n+1) (L.drop k)) (VN w.heap.size)):=by
 have R0:=R.below (al w fR);have PK:=af (fun(w:aAX) (R:dV w w0.heap.size rb ag s a c L k)=>xo R);unfold uw at PK;have Iz:=af (fun(w:aAX) (R:dV w w0.heap.size rb ag s a c L k)=>ah4 R);rw[ag9 h1 h2 (by rw[yb];exact h3)];have hrb:=R.lo.2;have Pb:=R.lo.1;have HT:=af (show L≠[]->bk a<w.heap.size from fun h=>R.rd.toks.lt mH ah h);have hL:L.length<=262144:=R.rd.sm;have HSH:=af R.sh;have z:((tx (aJ (L.drop k))).toList==[126])=false:=eD _ _ h1;have z2:((tx (aJ (L.drop k))).toList==[40])=false:=eD _ _ h2
 have HB:=af (show((tx (aJ (L.drop k))).toList==[116,114,117,101])=false\/(((tx (aJ (L.drop k))).toList==[116,114,117,101])=true/\aJ (L.drop (k+1))=[61]) by
  by_cases h:aJ (L.drop k)=[116,114,117,101]
  ·exact .inr ⟨by rw[bU,h];decide,h3.resolve_left (fun g=>g h)⟩
  exact .inl (eD _ _ h))
 have TH:=af (fun(w:aAX) (R:eR w0 w rb ag s a c L k)=>avU R.rd R.sh R.gl);have TK:=af (fun(w:aAX) (k':Nat) (R:dV w w0.heap.size rb ag s a c L k')=>Ct R [61] ay);have IC:=af (fun(w:aAX) (k':Nat) (R:eR w0 w rb ag s a c L k')=>abE R.rd R.sh (-2147483648) 2147483647 ay ay R.gl);generalize tx (aJ (L.drop k))=u at*;have R0:=af R0;obtain⟨Z,hZ⟩:=aF (jU ag (L.drop k));rw[hZ];have HZ:=af hZ;go_in;go_wp2_with fail;refine(PK.oo _ R0.oo.rd).mono ?_;rintro e w1 ⟨rfl,q⟩;have R1:=af (R0.oo.below q.cm);have S:=af (bX (bw:=rb) q.cm);go_wp2_with fail;refine(PK.oo _ R1.oo.rd).mono ?_;rintro e w2 ⟨rfl,q⟩;have R2:=af (R1.oo.below q.cm);have S:=af (S.oo.trans (bX (bw:=rb) q.cm));go_wp2_with fail;refine(PK.oo _ R2.oo.rd).mono ?_;rintro e w3 ⟨rfl,q⟩;have R3:=af (R2.oo.below q.cm);have S:=af (S.oo.trans (bX (bw:=rb) q.cm));rcases HB.oo with z3|⟨z3,h4⟩
 all_goals clear HB
 rotate_left
 rw[h4]at Iz;have z4:((tx [61]).toList==[61])=true:=by rw[bU];decide
 generalize tx [61]=v at Iz z4;go_wp2_with fail;refine(Iz.oo _ R3.oo.rd).mono ?_;rintro e w4 ⟨rfl,q⟩;have R3:=af (R3.oo.below q.cm);have S:=af (S.oo.trans (bX (bw:=rb) q.cm))
 all_goals
  have TH:=af (TH.oo _ R3.oo);go_wp2_with fail;refine TH.oo.mono ?_;rintro e w5 h;rcases tS:fQ ag (L.drop k)with er|⟨t,r⟩
  ·have rM:=af tS
   have HZ:=HZ.oo;simp only[jU,tS]at HZ;subst HZ;obtain⟨rfl,S5⟩:=h.err (show _=aBA er by rw[rM.oo]);unfold jw;go_wp2;exact⟨rfl,(St.new (St.refl w rb) fR).trans (S.oo.trans S5),.inl ⟨_,rfl,rfl⟩⟩
  have rM:=af tS;obtain⟨k1,rfl,⟨rfl,hx⟩,R5,S5⟩:=h.ez (show _=aBz (t,r) by rw[rM.oo]);have HX:=af hx;have R5:=af ((R3.oo.st S5 R5).below (al w5 (bY (.mk 2 t 0 none 0 []))));have hs5:=S5.grown.size;have apo:=S.oo.grown.size;have apc:rb<w5.heap.size:=by simp at apo;omega
  have aph:w5.heap.size≠rb:=ah;have S:=af (S.oo.trans S5);have hS5:=S.oo.grown.size;have TC:=af (TK.oo _ k1 R5.oo.rd);go_wp2_with fail;refine TC.oo.mono ?_;rintro e w6 h;rcases htk:bQ [61] (L.drop k1)with er|r2
  ·have nG:=af htk
   have HZ:=HZ.oo;simp only[jU,rM.oo,htk]at HZ;subst HZ;obtain⟨rfl,S6⟩:=h.err (show _=aBA er by rw[nG.oo];rfl);unfold jw;go_wp2;exact⟨rfl,(St.new (St.refl w rb) fR).trans ((St.new S.oo (bY (.mk 2 t 0 none 0 []))).trans S6),.inl ⟨_,rfl,rfl⟩⟩
  have nG:=af htk;obtain⟨k2,rfl,hv,R6,S6⟩:=h.ez (show _=aBz ((),r2) by rw[nG.oo];rfl);unfold VU at hv;subst hv;have R6:=af (R5.oo.st S6 R6);have IT:=af (IC.oo _ k2 R6.oo);have S6:=af S6;go_wp2_with fail;refine IT.oo.mono ?_;rintro e w7 h;rcases hin:lq (-2147483648) 2147483647 (L.drop k2)with er|⟨v',r3⟩
  ·have Bw:=af hin
   have HZ:=HZ.oo;simp only[jU,rM.oo,nG.oo,hin]at HZ;subst HZ;obtain⟨rfl,S7⟩:=h.err (show _=aBA er by rw[Bw.oo]);unfold jw;go_wp2;exact⟨rfl,(St.new (St.refl w rb) fR).trans ((St.new S.oo (bY (.mk 2 t 0 none 0 []))).trans (S6.oo.trans S7)),.inl ⟨_,rfl,rfl⟩⟩
  have Bw:=af hin;have HZ:=HZ.oo;simp only[jU,rM.oo,nG.oo,hin]at HZ;subst HZ;obtain⟨k3,rfl,hv,R7,S7⟩:=h.ez (show _=aBz (v',r3) by rw[Bw.oo]);unfold VI at hv;subst hv;have b4:=j8 (S6.oo.trans S7) apc;have S8:=(St.new S.oo (bY (.mk 2 t 0 none 0 []))).trans (S6.oo.trans S7);have b8:=j8 S8 hrb;have Pc:=(S6.oo.trans S7).grown.size;have fz:=fun j=>(iE S8 (b:=w.heap.size) aq ah j).trans (cJ w _ _ j)
  have fy:=fun j=>(iE (S6.oo.trans S7) (b:=w5.heap.size) aq ah j).trans (cJ w5 _ _ j)
  obtain⟨p0,p1,p2,p3,p4,p5⟩:=b8.kK;obtain⟨q0,q1,q2,q3,q4,q5⟩:=b4.kK;have afo:w.heap.size<w5.heap.size:=by simp at hS5;omega
  have aAA:w5.heap.size≠w.heap.size:=ah;have aAs:w5.heap.size<w7.heap.size:=by simp at Pc;omega
  have R7:=af (R6.oo.st S7 R7);have S8:=af S8;go_wp2;exact aZ (by simp[results,results332,go_sem,p0,p1,p2,p3,p4,p5,Nd.kind,Nd.th,Nd.val,Nd.a,Nd.c,Nd.aP]) rfl (VN.fin (R7.oo.mj (Az (AA _ _) 4 _) aph (fun h=>by have:=HT.oo h;omega) ah) (St.put S8.oo (b:=w5.heap.size) aC 4 _) (bK.grown Dp) hrb HT.oo (.mk 2 t v' none 0 []) (cI.leaf _ _ 2 t v' HX.oo).1 (cI.leaf w1 0 2 t v' HX.oo).2 (by rw[bO,qa]) rfl)
theorem amJ(H:xS 332 w0 rb ag s a c L m (cz ag n))(R:eR w0 w rb ag s a c L k)(hm:(L.drop k).length<=m+1):aA7 prog 332 #[.pointer (some ⟨rb,0,none⟩)] w (iW w w0.heap.size rb ag s a c L (cz ag (n+1) (L.drop k)) (VN w.heap.size)):=by
 by_cases h1:aJ (L.drop k)=[126]
 ·exact amF R hm H h1
 by_cases h2:aJ (L.drop k)=[40]
 ·exact amG R hm H h2
 by_cases h3:aJ (L.drop k)=[116,114,117,101]
 ·by_cases h4:aJ (L.drop (k+1))=[61]
  ·exact Uw R h1 h2 (.inr h4)
  exact amH R h3 h4
 exact Uw R h1 h2 (.inl h3)
theorem amI(R:eR w0 w rb ag s a c L k)(hm:(L.drop k).length=0):aA7 prog 332 #[.pointer (some ⟨rb,0,none⟩)] w (iW w w0.heap.size rb ag s a c L (cz ag (n+1) (L.drop k)) (VN w.heap.size)):=by
 have h:aJ (L.drop k)=[]:=by rw[lH hm];rfl
 exact Uw R (by rw[h];decide) (by rw[h];decide) (.inl (by rw[h];decide))
theorem amE(n:Nat):xS 332 w0 rb ag s a c L n (cz ag (n+1)):=by
 induction n with
 |zero=>intro w k R hm;exact amI R ah
 |succ n ih=>intro w k R hm;exact amJ ih R hm
theorem avR(R:eR w0 w rb ag s a c L k):aA7 prog 238 #[.pointer (some ⟨rb,0,none⟩)] w (iW w w0.heap.size rb ag s a c L (jt (cz ag ((L.drop k).length+1)) (L.drop k)) (VN w.heap.size)):=
 abK R (aX _) (amE _)
end
def mY(ag q:Int)(l:List Tok):PR (Int × Nd):=match bQ [40] l with
 | .error e=>.error e
 | .ok l=>match jt (cz ag (l.length+1)) l with
   | .error e=>.error e
   | .ok (x,l)=>match bQ [41] l with
     | .error e=>.error e
     | .ok l=>if l=[]then .ok ((q,x),[])else .error l
def mJ(ag:Int)(l:List Tok):PR (Int × Nd):=match iB ag l with
 | .error e=>.error e
 | .ok p=>.ok (p,[])
theorem JE(ag:Int)(l:List Tok):mJ ag l=match jk l with
 | .error e=>.error e
 | .ok (q,l)=>mY ag q l:=by
 unfold mJ iB mY;cases jk l with
 |error e=>rfl
 | ok p=>
   obtain⟨q,r⟩:=p;simp only;cases bQ [40] r with
   |error e=>rfl
   | ok r=>
     simp only;cases jt (cz ag (r.length+1)) r with
     |error e=>rfl
     | ok p=>
       obtain⟨x,r⟩:=p;simp only;cases bQ [41] r with
       |error e=>rfl
       | ok r=>
         simp only
         by_cases hr:r=[]
         ·rw[ak hr,ak hr]
         rw[ai hr,ai hr]
theorem amT{ag:Int}{l:List Tok}(h:aJ l=[102,111,114,97,108,108]):mJ ag l=mY ag 3 l.tail:=by
 rw[JE,jk,ak h]
theorem amU{ag:Int}{l:List Tok}(h:aJ l=[126]):mJ ag l=match bQ [101,120,105,115,116,115] l.tail with
 | .error e=>.error e
 | .ok r=>mY ag 2 r:=by
 rw[JE,jk,ai (by rw[h];decide),ak h];cases bQ [101,120,105,115,116,115] l.tail<;>rfl
theorem amV{ag:Int}{l:List Tok}(h:aJ l≠[102,111,114,97,108,108])(h2:aJ l≠[126]):mJ ag l=match bQ [101,120,105,115,116,115] l with
 | .error e=>.error e
 | .ok r=>mY ag 1 r:=by
 rw[JE,jk,ai h,ai h2];cases bQ [101,120,105,115,116,115] l<;>rfl
theorem abT{ag q:Int}{l e:List Tok}(h:bQ [40] l= .error e):mY ag q l= .error e:=by unfold mY;rw[h]
theorem abU{ag q:Int}{l e:List Tok}{l1:List Tok}(h:bQ [40] l= .ok l1)(h2:jt (cz ag (l1.length+1)) l1= .error e):mY ag q l= .error e:=by unfold mY;rw[h];simp only;rw[h2]
theorem abV{ag q:Int}{l e:List Tok}{l1 l2:List Tok}{x:Nd}(h:bQ [40] l= .ok l1)(h2:jt (cz ag (l1.length+1)) l1= .ok (x,l2))(h3:bQ [41] l2= .error e):mY ag q l= .error e:=by unfold mY;rw[h];simp only;rw[h2];simp only;rw[h3]
theorem abW{ag q:Int}{l:List Tok}{l1 l2 l3:List Tok}{x:Nd}(h:bQ [40] l= .ok l1)(h2:jt (cz ag (l1.length+1)) l1= .ok (x,l2))(h3:bQ [41] l2= .ok l3)(h4:l3≠[]):mY ag q l= .error l3:=by unfold mY;rw[h];simp only;rw[h2];simp only;rw[h3];simp only;rw[ai h4]
theorem abX{ag q:Int}{l:List Tok}{l1 l2 l3:List Tok}{x:Nd}(h:bQ [40] l= .ok l1)(h2:jt (cz ag (l1.length+1)) l1= .ok (x,l2))(h3:bQ [41] l2= .ok l3)(h4:l3=[]):mY ag q l= .ok ((q,x),[]):=by unfold mY;rw[h];simp only;rw[h2];simp only;rw[h3];simp only;rw[ak h4]
theorem bK.drew{w w':aAX}{b:Nat}(h:bK w w' b):bK w w'.drew b:=⟨⟨h.grown.os,h.grown.tape,h.grown.output,h.grown.size,h.grown.block⟩,h.size⟩
abbrev zC(q:Int):Obj:=.cells #[.int .i64 q,.int .i64 0,.int .i64 0,.int .i64 0,.string ⟨#[]⟩,.int .i64 0,.slice none 0 0] 30
structure og(w0 w wx:aAX)(rb:Nat)(ag:Int)(s:Tx)(a:Option aAZ)(c:Nat)(L:List Tok)(k:Nat)(l:List aAY):Prop where
 rd:eR w0 wx rb ag s a c L k
 st:St (w.alloc (zC 0)) wx rb
 bx:aW wx (w.heap.size+1) l
 fz: ∀j,wx.frozen? ⟨w.heap.size+1,j,none⟩=false
 hr:rb<w.heap.size
 ht:L≠[]->bk a<w.heap.size
section
variable {w0 w wx wy:aAX} {rb:Nat} {ag:Int} {s:Tx} {a:Option aAZ} {c:Nat} {L:List Tok} {k k':Nat} {l:List aAY}
theorem og.new(R:eR w0 w rb ag s a c L k):og w0 w ((w.alloc (zC 0)).alloc (zC 1)) rb ag s a c L k [.int .i64 1,.int .i64 0,.int .i64 0,.int .i64 0,.string ⟨#[]⟩,.int .i64 0,.slice none 0 0]:=by
 refine⟨(R.below (al w (zC 0))).below (al _ (zC 1)),St.new (St.refl _ _) _,?_,fun j=>?_,R.lo.2,fun h=>R.rd.toks.lt mH ah h⟩
 ·have:=aW.new (w.alloc (zC 0)) #[.int .i64 1,.int .i64 0,.int .i64 0,.int .i64 0,.string ⟨#[]⟩,.int .i64 0,.slice none 0 0] 30
  simpa using this
 have:=cJ (w.alloc (zC 0)) #[.int .i64 1,.int .i64 0,.int .i64 0,.int .i64 0,.string ⟨#[]⟩,.int .i64 0,.slice none 0 0] 30 j
 exact Va
theorem og.step(h:og w0 w wx rb ag s a c L k l)(hs:St wx wy rb)(hr:dV wy w0.heap.size rb ag s a c L k'):og w0 w wy rb ag s a c L k' l:=by
 have:=h.hr;have aA:=h.bx.1;exact⟨h.rd.st hs hr,h.st.trans hs,h.bx.step hs ah,fun j=>(iE hs aA ah j).trans (h.fz j),h.hr,h.ht⟩
theorem og.below(h:og w0 w wx rb ag s a c L k l)(hb:aAW wx.heap.size wx wy):og w0 w wy rb ag s a c L k l:=
 h.step (bX hb) (h.rd.below hb).rd
theorem og.next(h:og w0 w wx rb ag s a c L k l)(hk:k<L.length):og w0 w (wx.setCell ⟨rb,3,none⟩ (.int .i64 ((k:Int)+1))) rb ag s a c L (k+1) l:=by
 obtain⟨R2,S2⟩:=h.rd.rd.next hk;exact h.step S2 R2
theorem og.set(h:og w0 w wx rb ag s a c L k l)(j:Nat)(v:aAY):og w0 w (wx.setCell ⟨w.heap.size+1,j,none⟩ v) rb ag s a c L k (l.set j v):=by
 have h1:=h.hr;have h0:=h.rd.lo.1;exact⟨h.rd.mj (Az (AA _ _) j v) ah (fun e=>by have:=h.ht e;omega) ah,St.put h.st aq j v,h.bx.set j v,fun i=>by rw[aeV];exact h.fz i,h.hr,h.ht⟩
end
def VCd(B:Nat)(x:Int × Nd)(e:aBp)(w:aAX):Prop:= ∃y,bO y=x.2/\e= .returned (vC x.1 y)/\cI w B y/\(jF y).Nodup
theorem og.fin{w0 w wx w2:aAX}{rb:Nat}{ag:Int}{s:Tx}{a:Option aAZ}{c:Nat}{L:List Tok}{k:Nat}{l:List aAY}{e:aBp}{q:Int}{x y:Nd}(hC:og w0 w wx rb ag s a c L k l)(hg:wx.grownBy w2 (aBf w.heap.size))(hN:cI wx (w.heap.size+2) y)(hn:(jF y).Nodup)(hy:bO y=x)(hk:L.drop k=[])(he:e= .returned (vC q y)):iW w w0.heap.size rb ag s a c L (.ok ((q,x),[])) (VCd w.heap.size) e w2:=by
 have h0:=hC.rd.lo.1;have h2:=hC.hr;have h1:=hC.rd.mj hg ah (fun h=>by have:=hC.ht h;omega) ah;have hs:=(St.new (St.refl w rb) (zC 0)).trans hC.st;refine⟨⟨⟨hg.os.trans hs.grown.os,hg.tape.trans hs.grown.tape,hg.output.trans hs.grown.output,dY hs.grown.size hg.size,fun j hj aN=>?_⟩,.inl rfl⟩,.inr ⟨_,k,by rw[hk],⟨y,hy,he,?_,hn⟩,h1.rd⟩⟩
 ·rw[hg.block j (ou hj hs.grown.size) aC]
  exact hs.grown.block j hj aN
 refine(hN.mono (B':=w.heap.size) ah).kept hg fun b hb e=>?_
 exact Oi
def Fh(ag q:Int)(l:List Tok):PR (Int × Nd):=match bQ [101,120,105,115,116,115] l with
 | .error e=>.error e
 | .ok r=>mY ag q r
theorem ane{ag q:Int}{l e:List Tok}(h:bQ [101,120,105,115,116,115] l= .error e):Fh ag q l= .error e:=by unfold Fh;rw[h]
theorem anf{ag q:Int}{l r:List Tok}(h:bQ [101,120,105,115,116,115] l= .ok r):Fh ag q l=mY ag q r:=by unfold Fh;rw[h]
section
variable {w0 w:aAX} {rb:Nat} {ag:Int} {s:Tx} {a:Option aAZ} {c:Nat} {L:List Tok} {k:Nat}
theorem aiz(R:eR w0 w rb ag s a c L k):
 aA7 prog 158 #[.pointer (some ⟨rb,0,none⟩)] w (iW w w0.heap.size rb ag s a c L (mJ ag (L.drop k)) (VCd w.heap.size)):=by
 have C0:=af (og.new R);have PK:=af (xo C0.oo.rd.rd);unfold uw at PK;have hrb:=R.lo.2;have Pb:=R.lo.1;have aN:w.heap.size+1≠rb:=ah;have CZ:rb≠w.heap.size+1:=ah;have hL:L.length<=262144:=R.rd.sm;have TE:=af (fun(w:aAX) (k':Nat) (R:dV w w0.heap.size rb ag s a c L k')=>Ct R [101,120,105,115,116,115] ay);have T40:=af (fun(w:aAX) (k':Nat) (R:dV w w0.heap.size rb ag s a c L k')=>Ct R [40] ay);have T41:=af (fun(w:aAX) (k':Nat) (R:dV w w0.heap.size rb ag s a c L k')=>Ct R [41] ay);have ND:=af (fun(w:aAX) (k':Nat) (R:eR w0 w rb ag s a c L k')=>avR R);have FL:=af (fun(w:aAX) (k':Nat) (R:dV w w0.heap.size rb ag s a c L k')=>JA R);obtain⟨Z,hZ⟩:=aF (mJ ag (L.drop k));rw[hZ];obtain⟨u,hu⟩:=aF (aJ (L.drop k));rw[hu]at PK;clear R
 have HC:Hid ((u=[102,111,114,97,108,108]/\k<L.length/\mY ag 3 (L.drop (k+1))=Z)\/(u=[126]/\k<L.length/\Fh ag 2 (L.drop (k+1))=Z)\/(u≠[102,111,114,97,108,108]/\u≠[126]/\Fh ag 1 (L.drop k)=Z)):=af (by
  by_cases h1:u=[102,111,114,97,108,108]
  ·refine .inl ⟨h1,AF (L:=L) (k:=k) (by rw[hu,h1];decide),?_⟩
   rw[<-hZ,amT (hu.trans h1),yb]
  by_cases h2:u=[126]
  ·refine .inr (.inl ⟨h2,AF (L:=L) (k:=k) (by rw[hu,h2];decide),?_⟩)
   rw[<-hZ,amU (hu.trans h2),yb];rfl
  refine .inr (.inr ⟨h1,h2,?_⟩)
  rw[<-hZ,amV (by rw[hu];exact h1) (by rw[hu];exact h2)];rfl)
 clear hZ hu;rcases HC.oo with⟨h1,h2,h3⟩|⟨h1,h2,h3⟩|⟨h1,h2,h3⟩
 all_goals
  have HZ:=af h3;clear h3 HC
 rotate_left
 iterate 2
  first
   | have z1:((tx u).toList==[102,111,114,97,108,108])=false:=by rw[bU,h1];decide
     have z2:((tx u).toList==[126])=true:=by rw[bU,h1];decide
     have HK:=af h2;generalize tx u=v at*;clear h1
   | have z1:((tx u).toList==[102,111,114,97,108,108])=false:=eD _ _ h1
     have z2:((tx u).toList==[126])=false:=eD _ _ h2;generalize tx u=v at*;clear h1 h2
  go_in;go_wp2_with fail;refine PK.oo.mono ?_;rintro e w1 ⟨rfl,q⟩;have C:=C0.oo.below q.cm;clear q
  first
   | have fC:=HK.oo
     obtain⟨c0,c1,c2,c3,f3,lt⟩:=C.rd.rd.cells;have d0:=C.bx.get 0 _ rfl;have e0:=C.fz 0;replace C:=af ((C.set 0 (.int .i64 2)).next fC)
   |replace C:=af C
  have TX:=af (TE.oo _ _ C.oo.rd.rd);generalize L.drop _=m0 at HZ TX;rcases h0:bQ [101,120,105,115,116,115] m0 with er|l0
  ·obtain rfl:=HZ.oo.symm.trans (ane h0)
   have HX:=af h0;clear h0;exact aev
  replace HZ:=af ((anf h0).symm.trans HZ.oo);have akE:=af h0;clear h0;go_wp2_with fail;refine TX.oo.mono ?_;rintro e wh h;obtain⟨kh,rfl,hv,R9,S9⟩:=h.ez (show _=aBz ((),l0) by rw[akE.oo];rfl);unfold VU at hv;subst hv;have C:=af (C.oo.step S9 R9);clear h TX R9 S9
  rotate_left
 have z1:((tx u).toList==[102,111,114,97,108,108])=true:=by rw[bU,h1];decide
 have HK:=af h2;generalize tx u=v at*;clear h1;go_in;go_wp2_with fail;refine PK.oo.mono ?_;rintro e w1 ⟨rfl,q⟩;have C:=C0.oo.below q.cm;clear q;obtain⟨c0,c1,c2,c3,f3,lt⟩:=C.rd.rd.cells;have d0:=C.bx.get 0 _ rfl;have e0:=C.fz 0;replace C:=af ((C.set 0 (.int .i64 3)).next HK.oo)
 all_goals
  have TX:=af (T40.oo _ _ C.oo.rd.rd);generalize L.drop _=l0 at HZ TX;rcases h1:bQ [40] l0 with er|r1
  ·obtain rfl:=HZ.oo.symm.trans (abT h1)
   have HX:=af h1;clear h1;exact aev
  have Ip:=af h1;clear h1;go_wp2_with fail;refine TX.oo.mono ?_;rintro e wa h;obtain⟨k2,rfl,hv,R9,S9⟩:=h.ez (show _=aBz ((),r1) by rw[Ip.oo];rfl);unfold VU at hv;subst hv;have C:=af (C.oo.step S9 R9);clear h TX R9 S9;have TX:=af (ND.oo _ _ C.oo.rd);rcases h2:jt (cz ag ((L.drop k2).length+1)) (L.drop k2)with er|⟨x,r2⟩
  ·obtain rfl:=HZ.oo.symm.trans (abU Ip.oo h2)
   have HX:=af h2;clear h2;go_wp2_with fail;refine TX.oo.mono ?_;rintro e wb h;obtain⟨rfl,S9⟩:=h.err (show _=aBA er by rw[HX.oo]);unfold jw;go_wp2_with fail;exact⟨rfl,(St.new (St.refl w rb) (zC 0)).trans (C.oo.st.trans S9),.inl ⟨_,rfl,rfl⟩⟩
  have Mr:=af h2;clear h2;have lo4:=C.oo.rd.lo.2;have azX:=C.oo.bx.1;go_wp2_with fail;refine TX.oo.mono ?_;rintro e wb h;obtain⟨k3,rfl,⟨y,hy,rfl,dm,iI⟩,R9,S9⟩:=h.ez (show _=aBz (x,r2) by rw[Mr.oo]);have C:=C.oo.step S9 R9;obtain⟨-, d1,d2,d3,d4,d5,d6⟩:=C.bx.pI;have e1:=C.fz;have dm:=af (dm.mono (B':=w.heap.size+2) ah);have C:=af ((((((C.set 1 (.int .i64 y.kind)).set 2 (.int .i64 y.th.aO)).set 3 (.int .i64 y.th.aR)).set 4 (.string (tx y.th.aj))).set 5 (.int .i64 y.val)).set 6 (.slice y.a y.aP.length y.c));have afz:=af (dm.oo.kept (w':=((((((wb.setCell ⟨w.heap.size+1,1,none⟩ (.int .i64 y.kind)).setCell ⟨w.heap.size+1,2,none⟩ (.int .i64 y.th.aO)).setCell ⟨w.heap.size+1,3,none⟩ (.int .i64 y.th.aR)).setCell ⟨w.heap.size+1,4,none⟩ (.string (tx y.th.aj))).setCell ⟨w.heap.size+1,5,none⟩ (.int .i64 y.val)).setCell ⟨w.heap.size+1,6,none⟩ (.slice y.a y.aP.length y.c))) (bK.grown (b:=w.heap.size+1) Dp) (fun b hb e=>by have:=(dm.oo.lt b hb).1;simp at e;omega));clear h TX R9 S9;have TX:=af (T41.oo _ _ C.oo.rd.rd);rcases h3:bQ [41] (L.drop k3)with er|r3
  ·obtain rfl:=HZ.oo.symm.trans (abV Ip.oo Mr.oo h3)
   have HX:=af h3;clear h3;go_wp2_with fail;refine TX.oo.mono ?_;rintro e wc h;exact anO
  have RV:=af h3;clear h3;go_wp2_with fail;refine TX.oo.mono ?_;rintro e wc h;obtain⟨k4,rfl,hv,R9,S9⟩:=h.ez (show _=aBz ((),r3) by rw[RV.oo];rfl);unfold VU at hv;subst hv;have dm:=af (afz.oo.st S9 ah);have C:=af (C.oo.step S9 R9);clear h TX R9 S9 afz;obtain⟨c0,c1,c2,c3,f3,lt⟩:=C.oo.rd.rd.cells;have hk4:=C.oo.rd.rd.le
  by_cases hnil:L.drop k4=[]
  ·obtain rfl:=HZ.oo.symm.trans (abX Ip.oo Mr.oo RV.oo hnil)
   have z9:decide ((k4:Int)<(L.length:Int))=false:=by
    have:L.length<=k4:=by have:=congrArg List.length hnil;simp at this;omega
    simp;omega
   have z8:decide (k4<L.length)=false:=aS z9;have b8:=j8 C.oo.st hrb;have bx:=C.oo.bx;have fz:=fun j=>(iE C.oo.st (b:=w.heap.size) aq ah j).trans (cJ w _ _ j)
   obtain⟨p0,p1,p2,p3,p4,p5,p6⟩:=b8.pI;obtain⟨q0,q1,q2,q3,q4,q5,q6⟩:=bx.pI;clear b8 bx;go_wp2_with fail
   go_big_region
   all_goals go_wp2_with fail
   all_goals exact aZ (by simp[results,results158,go_sem,p0,p1,p2,p3,p4,p5,p6]) rfl (C.oo.fin (bK.grown (by(repeat first|with_reducible refine bK.put ?_ _ _|with_reducible refine bK.drew ?_);exact bK.refl _ _)) dm.oo iI hy hnil rfl)
  obtain rfl:=HZ.oo.symm.trans (abW Ip.oo Mr.oo RV.oo hnil)
  have z9:decide ((k4:Int)<(L.length:Int))=true:=by
   have:k4<L.length:=by rcases iA k4 L.length with h|h;exact h;exact absurd (iN h) hnil
   simp;omega
  have z8:decide (k4<L.length)=true:=aS z9;go_wp2_with fail
  go_big_region
  all_goals go_wp2_with fail
  all_goals
   first|refine(FL.oo wc.drew k4 (C.oo.rd.rd.below (below_drewN wc 1))).mono ?_|refine(FL.oo wc k4 C.oo.rd.rd).mono ?_
   rintro e wd ⟨rfl,q⟩;unfold jw;go_wp2_with fail;exact⟨rfl,(St.new (St.refl w rb) (zC 0)).trans (C.oo.st.trans (by first|exact(bX (below_drewN wc 1)).trans (bX (bw:=rb) q.cm)|exact bX (bw:=rb) q.cm)),.inl ⟨_,rfl,rfl⟩⟩
end
theorem axM(v:aAY)(w:aAX):(Instr.typeAssert (.iface 180 v) 20 180 false).run prog w= .ok v w:=by kernel_rfl
theorem axN(n:Int)(w:aAX):(Instr.field 180 (.agg #[.int .i64 n]) 0).run prog w= .ok (.int .i64 n) w:=by kernel_rfl
theorem ang(p q r:aAZ)(w:aAX):
 CallsD prog 156 #[.pointer (some p),.pointer (some q),.pointer (some r)] .returning w fun e u' w'=>e= .returned (.tuple #[])/\u'= .returning/\w'=w:=by
 refine Nf func156 rfl fun c₀ cs hu=>?_
 apply Ag;apply Af;simp[wpOpsS,go_sem,recoverD,hu,ntmps156,aBC];apply Ag;apply Af;simp[wpOpsS,go_sem,aBC];refine wpS_cond (t:=false) (by simp[Act.eval,aBD]) ?_;simp only[ow,kn];refine Ni (wp_skip ?_);cases c₀
 simp_all [bodyPostS,results,results156]
theorem ani(bp bq br:Nat)(n:Int)(w:aAX)(older:List PanicEntry)(us:List aAY)(x y:aAY)(hl:us.length=7)
 (h1:aW w bp us) (h2:w.cell? ⟨bq,0,none⟩=some x) (h3:w.cell? ⟨br,0,none⟩=some y) (f1: ∀j,w.frozen? ⟨bp,j,none⟩=false) (f2:w.frozen? ⟨bq,0,none⟩=false) (f3:w.frozen? ⟨br,0,none⟩=false)
 (n1:bp≠bq) (n2:bp≠br) (n3:bq≠br):
 CallsD prog 156 #[.pointer (some ⟨bp,0,none⟩),.pointer (some ⟨bq,0,none⟩),.pointer (some ⟨br,0,none⟩)] (.panicking ({ v:=.iface 180 (.agg #[.int .i64 n]),recovered:=false }::older)) w fun e u' w'=>e= .returned (.tuple #[])/\u'= .panicking ({ v:=.iface 180 (.agg #[.int .i64 n]),recovered:=true }::older)/\
  (∀B,B<=bp->B<=bq->B<=br->aAW B w w')/\aW w' bp [.int .i64 0,.int .i64 0,.int .i64 0,.int .i64 0,.string ⟨#[]⟩,.int .i64 0,.slice none 0 0]/\w'.cell? ⟨bq,0,none⟩=some (.int .i64 80)/\w'.cell? ⟨br,0,none⟩=some (.int .i64 n):=by
 match us,hl with
 |[u0,u1,u2,u3,u4,u5,u6],_=>
 obtain⟨p0,p1,p2,p3,p4,p5,p6⟩:=h1.pI;refine Nf func156 rfl fun c₀ cs hu=>?_
 apply Ag;apply Af;simp[wpOpsS,go_sem,recoverD,hu,ntmps156,aBC];apply Ag;apply Af;simp[wpOpsS,go_sem,aBC];refine wpS_cond (t:=true) (by simp[Act.eval,aBD]) ?_;simp only[lG];refine Ni ?_;have hx:=h1.1;have ta:=axM;have tb:=axN n;have f10:=f1 0;have f11:=f1 1;have f12:=f1 2;have f13:=f1 3;have f14:=f1 4;have f15:=f1 5;have f16:=f1 6;refine(?_:Code.wp prog _ _ ⟨#[.pointer (some ⟨bp,0,none⟩),.pointer (some ⟨bq,0,none⟩),.pointer (some ⟨br,0,none⟩),.iface 180 (.agg #[.int .i64 n]),.iface 180 (.agg #[.int .i64 n]),.iface 180 (.agg #[.int .i64 n]),.bool true,undef,undef,undef,undef],[]⟩ w)
 go_big_region
 all_goals(try go_wp2_with fail)
 refine⟨rfl,_,rfl,.tuple #[],by simp[results,results156],rfl,rfl,fun B b1 b2 b3=>?_,⟨by simpa using hx,fun j hj=>?_⟩,by simp[go_sem,h2],by simp[go_sem,h3]⟩
 ·(repeat first|with_reducible refine qQ ?_ b1 _|with_reducible refine qQ ?_ b2 _|with_reducible refine qQ ?_ b3 _|with_reducible refine Below.drew ?_)
  exact bS _ _
 have:j=0\/j=1\/j=2\/j=3\/j=4\/j=5\/j=6:=by simp at hj;omega
 rcases this with rfl|rfl|rfl|rfl|rfl|rfl|rfl<;>simp[go_sem,p0,p1,p2,p3,p4,p5,p6]
theorem Xn: ∀(n p:Nat) (s:Tx),s.length<=n-> ∀t∈lex p s,t.1.length<=s.length
 |_,p,[],_,t,ht=>by rw[lex_nil]at ht;cases ht
 |0,p,c::r,h,t,ht=>by simp at h
 | n+1,p,c::r,h,t,ht=>by
   have hr:r.length<=n:=aS h;cases hb:aH c with
   | true=>
     rw[Gs p r hb]at ht;have:=Xn n _ r hr t ht;simp;omega
   | false=>
     rw[KC p r hb]at ht;have h1:=ri c r;rcases cq.1 ht with rfl|ht
     ·simp;omega
     have:=Xn n _ _ aC t ht
     simp at this ⊢; omega
def pg(p:Except (Int × Nat) (Int × Nd))(w:aAX)(e:aBp)(w':aAX):Prop:=aAW w.heap.size w w'/\match p with
 | .error (n,k)=>e= .returned (.tuple #[.agg #[.int .i64 0,.int .i64 0,.int .i64 0,.int .i64 0,.string ⟨#[]⟩,.int .i64 0,.slice none 0 0],.int .i64 n,.int .i64 k])
 | .ok (q,x)=> ∃y,bO y=x/\e= .returned (.tuple #[vC q y,.int .i64 0,.int .i64 0])/\cI w' w.heap.size y/\(jF y).Nodup
theorem ahH{ag:Int}{s:Tx}(h:bD ag=false):dI ag s= .error (5,0):=by unfold dI;rw[ak h]
theorem ahI{ag:Int}{s:Tx}(h:bD ag=true)(hl:262144<s.length):dI ag s= .error (2,0):=by unfold dI;rw[ai (by rw[h];decide),ak hl]
theorem amW{ag:Int}{L l:List Tok}(hc:mJ ag L= .error l):iB ag L= .error l:=by
 unfold mJ at hc;cases h:iB ag L with
 |error e=>rw[h]at hc;cases hc;rfl
 |ok p=>rw[h]at hc;cases hc
theorem abN{ag:Int}{L l:List Tok}{p:Int × Nd}(hc:mJ ag L= .ok (p,l)):iB ag L= .ok p:=by
 unfold mJ at hc;cases h:iB ag L with
 |error e=>rw[h]at hc;cases hc
 |ok p=>rw[h]at hc;cases hc;rfl
theorem KR{ag:Int}{s:Tx}{l:List Tok}(h:bD ag=true)(hl:s.length<=262144)(hc:mJ ag (lex 0 s)= .error l):dI ag s= .error (80,eI s.length l):=by
 unfold dI;rw[ai (by rw[h];decide),ai ah,amW hc];rfl
theorem ahJ{ag q:Int}{s:Tx}{l:List Tok}{x:Nd}(h:bD ag=true)(hl:s.length<=262144)(hc:mJ ag (lex 0 s)= .ok ((q,x),l))(h0:dh ag q x=0):dI ag s= .ok (q,x):=by
 unfold dI;rw[ai (by rw[h];decide),ai ah,abN hc];simp only;rw[ak h0]
theorem ahK{ag q:Int}{s:Tx}{l:List Tok}{x:Nd}(h:bD ag=true)(hl:s.length<=262144)(hc:mJ ag (lex 0 s)= .ok ((q,x),l))(h0:dh ag q x≠0):dI ag s= .error (dh ag q x,0):=by
 unfold dI;rw[ai (by rw[h];decide),ai ah,abN hc];simp only;rw[ai h0]
theorem amO{ag:Int}{s:Tx}(h:bD ag=false)(w:aAX):aA7 prog 82 #[.int .i64 ag,.string (tx s)] w (pg (dI ag s) w):=by
 rw[ahH h];have KN:=af (fun w=>JC ag w);have HA:=af h;have Kj: ∀(fn:Fn) (first cap:Array aAY) (w:aAX),(aBB fn first cap).run prog w= .ok (.func fn first cap) w:=fun _ _ _ _=>rfl
 go_enter_defers func82,ntmps82
 go_wp2_with (go_at_call 142;refine aK (KN.oo _) ?_;rw[HA.oo])
 exact aew
theorem amP{ag:Int}{s:Tx}(h:bD ag=true)(hl:262144<s.length)(hm:s.length<=9223372036854775807)(w:aAX):aA7 prog 82 #[.int .i64 ag,.string (tx s)] w (pg (dI ag s) w):=by
 rw[ahI h hl];have KN:=af (fun w=>JC ag w);have HA:=af h;have hsz:(tx s).size=s.length:=bC s;generalize tx s=u at*;have z:decide ((262144:Int)<(u.size:Int))=true:=aC;have hm2:u.size<=9223372036854775807:=ah;have Kj: ∀(fn:Fn) (first cap:Array aAY) (w:aAX),(aBB fn first cap).run prog w= .ok (.func fn first cap) w:=fun _ _ _ _=>rfl
 go_enter_defers func82,ntmps82
 go_wp2_with (go_at_call 142;refine aK (KN.oo _) ?_;rw[HA.oo])
 exact aew
abbrev Yj(ag:Int)(s:Tx)(a:Option aAZ)(n c:Nat):Obj:=.cells #[.int .i64 ag,.string (tx s),.slice a n c,.int .i64 0] 185
theorem eR.new{w:aAX}{ag:Int}{s:Tx}{a:Option aAZ}{c:Nat}(hO:Iy w 0 a (lex 0 s).length c (lex 0 s))(hs:s.length<=262144)(g:Gl w):eR w (w.alloc (Yj ag s a (lex 0 s).length c)) w.heap.size ag s a c (lex 0 s) 0:=by
 have hl:=Kz _ 0 s (aX _);have hT:cQ Ju w a (lex 0 s):=⟨au.row hO,ah⟩;refine⟨⟨?_,hT.below (al w _),fun h=>?_,dW _,ah,hs⟩,g,al w _,Xn _ 0 s (aX _)⟩
 ·exact Ab w (e:=185) #[.int .i64 ag,.string (tx s),.slice a (lex 0 s).length c,.int .i64 0] 1 (aX w.heap.size) (size:=4) dx aq
 have:=hT.lt mH ah h
 omega
abbrev zE:Obj:=.cells #[.int .i64 0] 33
abbrev zI:Obj:=.cells #[.int .i64 0] 3
abbrev Hr(w:aAX):aAX:=((w.alloc (zC 0)).alloc zE).alloc zI
theorem Nq(w:aAX):aAW w.heap.size w (Hr w):=gD
theorem akc{w w4:aAX}{rb:Nat}(S:St (Hr w) w4 rb)(hr:w.heap.size+2<rb):aW w4 w.heap.size [.int .i64 0,.int .i64 0,.int .i64 0,.int .i64 0,.string ⟨#[]⟩,.int .i64 0,.slice none 0 0]/\w4.cell? ⟨w.heap.size+1,0,none⟩=some (.int .i64 0)/\w4.cell? ⟨w.heap.size+1+1,0,none⟩=some (.int .i64 0)/\(∀j,w4.frozen? ⟨w.heap.size,j,none⟩=false)/\(∀j,w4.frozen? ⟨w.heap.size+1,j,none⟩=false)/\(∀j,w4.frozen? ⟨w.heap.size+1+1,j,none⟩=false):=by
 have a1:=al w (zC 0);have a2:=al (w.alloc (zC 0)) zE;have a3:=al ((w.alloc (zC 0)).alloc zE) zI;have b1:=(((aW.new w #[.int .i64 0,.int .i64 0,.int .i64 0,.int .i64 0,.string ⟨#[]⟩,.int .i64 0,.slice none 0 0] 30).below a2).below a3).step S ah;have b2:=((aW.new (w.alloc (zC 0)) #[.int .i64 0] 33).below a3).step S vk;have b3:=(aW.new ((w.alloc (zC 0)).alloc zE) #[.int .i64 0] 3).step S vk;have c2:=b2.get 0 _ rfl;have c3:=b3.get 0 _ rfl;simp only[gQ]at c2 c3;refine⟨b1,c2,c3,fun j=>?_,fun j=>?_,fun j=>?_⟩
 ·rw[iE S vk ah,a3.frozen (p:=⟨w.heap.size,j,none⟩) vk,a2.frozen (p:=⟨w.heap.size,j,none⟩) aq]
  exact Fu
 ·rw[iE S vk ah,a3.frozen (p:=⟨w.heap.size+1,j,none⟩) aq]
  have:=cJ (w.alloc (zC 0)) #[.int .i64 0] 33 j;exact Va
 rw[iE S aq ah]
 have:=cJ ((w.alloc (zC 0)).alloc zE) #[.int .i64 0] 3 j;rw[gQ,gQ]at this;exact this
theorem amQ{ag:Int}{s:Tx}{l:List Tok}(h:bD ag=true)(hl:s.length<=262144)(hc:mJ ag (lex 0 s)= .error l)(w:aAX)(g:Gl w):aA7 prog 82 #[.int .i64 ag,.string (tx s)] w (pg (dI ag s) w):=by
 rw[KR h hl hc];have KN:=af (fun w=>JC ag w);have TK:=af (abY s hl (Hr w));have HA:=af h;have hsz:(tx s).size=s.length:=bC s;have HS:=af hl;have HC:=af hc;have HG:=af g;generalize hu:tx s=u at*;have z:decide ((262144:Int)<(u.size:Int))=false:=aC;have hm2:u.size<=9223372036854775807:=ah;have Kj: ∀(fn:Fn) (first cap:Array aAY) (w:aAX),(aBB fn first cap).run prog w= .ok (.func fn first cap) w:=fun _ _ _ _=>rfl
 go_enter_defers func82,ntmps82
 go_wp2_with (first|(go_at_call 142;refine aK (KN.oo _) ?_;rw[HA.oo])|fail)
 refine TK.oo.mono ?_;rintro e w2 ⟨a,c,rfl,hO,E2⟩;subst hu;have Ga:=E2.size;have RC:=af (aiz (eR.new (ag:=ag) (au.mono hO (dW _)) HS.oo ((HG.oo.below (Nq w)).below E2)));have E2:=af E2;go_wp2_with fail;refine RC.oo.mono ?_;rintro e w4 h;obtain⟨rfl,S3⟩:=h.err (show _=aBA l by rw[jg];exact HC.oo);have S:St (Hr w) w4 w2.heap.size:=(bX E2.oo).trans ((bX (al w2 (Yj ag s a (lex 0 s).length c))).trans S3);have hrb:w.heap.size+2<w2.heap.size:=by simp at Ga;omega
 obtain⟨v1,v2,v3,f1,f2,f3⟩:=akc S hrb;have B4:aAW w.heap.size w w4:=(Nq w).grown S.grown aC (fun r hr=>by simp at hr;omega);unfold jw;go_wp2_with fail;refine Jh (f:=156) (args:=#[.pointer (some ⟨w.heap.size,0,none⟩),.pointer (some ⟨w.heap.size+1,0,none⟩),.pointer (some ⟨w.heap.size+1+1,0,none⟩)]) aq (by simp[go_sem]) ?_;refine(ani w.heap.size (w.heap.size+1) (w.heap.size+1+1) _ w4 [] _ _ _ rfl v1 v2 v3 f1 (f2 0) (f3 0) ah ah ah).mono ?_;rintro e u' w5 ⟨rfl,rfl,hB,hx,hq,hr⟩;obtain⟨p0,p1,p2,p3,p4,p5,p6⟩:=hx.pI;refine⟨.tuple #[.agg #[.int .i64 0,.int .i64 0,.int .i64 0,.int .i64 0,.string ⟨#[]⟩,.int .i64 0,.slice none 0 0],.int .i64 80,.int .i64 (eI s.length l)],by simp[results,results82,go_sem,p0,p1,p2,p3,p4,p5,p6,hq,hr],?_⟩;exact⟨B4.trans (hB _ (aX _) ah ah),rfl⟩
mutual
theorem akh(ag:Int): ∀(x:Nd) (met deep:Nat),fY ag (bO x) met deep=fY ag x met deep
 | .mk k t v a c l,met,deep=>by
   rw[bO,fY,fY,Jl,ake ag l]
theorem ake(ag:Int): ∀(l:List Nd) (met deep:Nat),kX ag (fL l) met deep=kX ag l met deep
 |[],met,deep=>by rw[fL]
 |x::r,met,deep=>by rw[fL,kX,kX,akh ag x,ake ag r]
end
abbrev pC(w4:aAX)(b:Nat)(q:Int)(y:Nd):aAX:=((((((w4.setCell ⟨b,0,none⟩ (.int .i64 q)).setCell ⟨b,1,none⟩ (.int .i64 y.kind)).setCell ⟨b,2,none⟩ (.int .i64 y.th.aO)).setCell ⟨b,3,none⟩ (.int .i64 y.th.aR)).setCell ⟨b,4,none⟩ (.string (tx y.th.aj))).setCell ⟨b,5,none⟩ (.int .i64 y.val)).setCell ⟨b,6,none⟩ (.slice y.a y.aP.length y.c)
theorem GK{w w5 w6 w7 w8:aAX}{B:Nat}(h0:aAW B w w5)(h3:bK w7 w8 (B+1+1))(h2:bK w6 w7 (B+1))(h1:bK w5 w6 B)(hB:B<=w5.heap.size):aAW B w w8:=by
 exact aex
theorem cI.GK{w5 w6 w7 w8:aAX}{B:Nat}{y:Nd}(h0:cI w5 (B+3) y)(h3:bK w7 w8 (B+1+1))(h2:bK w6 w7 (B+1))(h1:bK w5 w6 B):cI w8 B y:=by
 have a1:=h0.kept h1.grown (fun b hb e=>by have:=(h0.lt b hb).1;simp at e;omega);have a2:=a1.kept h2.grown (fun b hb e=>by have:=(a1.lt b hb).1;simp at e;omega);exact(a2.kept h3.grown (fun b hb e=>by have:=(a2.lt b hb).1;simp at e;omega)).mono ah
theorem aoc{w w5 w6 w7 w8:aAX}{q:Int}{x y:Nd}{e:aBp}(h0:aAW w.heap.size w w5)(hN:cI w5 (w.heap.size+3) y)(hn:(jF y).Nodup)(hy:bO y=x)(he:e= .returned (.tuple #[vC q y,.int .i64 0,.int .i64 0]))(h3:bK w7 w8 (w.heap.size+1+1))(h2:bK w6 w7 (w.heap.size+1))(h1:bK w5 w6 w.heap.size):pg (.ok (q,x)) w e w8:=
 ⟨GK h0 h3 h2 h1 h0.size,y,hy,he,hN.GK h3 h2 h1,hn⟩
theorem aod{w w5 w6 w7 w8:aAX}{er:Int}{e:aBp}(h0:aAW w.heap.size w w5)(he:e= .returned (.tuple #[.agg #[.int .i64 0,.int .i64 0,.int .i64 0,.int .i64 0,.string ⟨#[]⟩,.int .i64 0,.slice none 0 0],.int .i64 er,.int .i64 0]))(h3:bK w7 w8 (w.heap.size+1+1))(h2:bK w6 w7 (w.heap.size+1))(h1:bK w5 w6 w.heap.size):pg (.error (er,0)) w e w8:=
 ⟨GK h0 h3 h2 h1 h0.size,he⟩
theorem abC(ag q:Int)(x:Nd):dh ag q (bO x)=dh ag q x:=by unfold dh;rw[akh]
theorem amR{ag q:Int}{s:Tx}{l:List Tok}{x:Nd}(h:bD ag=true)(hl:s.length<=262144)(hc:mJ ag (lex 0 s)= .ok ((q,x),l))(w:aAX)(g:Gl w):aA7 prog 82 #[.int .i64 ag,.string (tx s)] w (pg (dI ag s) w):=by
 obtain⟨pp,fX⟩:=aF (dI ag s)
 have HP:=af (show(dh ag q x=0/\pp= .ok (q,x))\/(dh ag q x≠0/\pp= .error (dh ag q x,0)) by
  rw[<-fX]
  by_cases h0:dh ag q x=0
  ·exact .inl ⟨h0,ahJ h hl hc h0⟩
  exact .inr ⟨h0,ahK h hl hc h0⟩)
 rw[fX];have KN:=af (fun w=>JC ag w);have TK:=af (abY s hl (Hr w));have HA:=af h;have hsz:(tx s).size=s.length:=bC s;have HS:=af hl;have HC:=af hc;have HG:=af g;generalize hu:tx s=u at*;have z:decide ((262144:Int)<(u.size:Int))=false:=aC;have hm2:u.size<=9223372036854775807:=ah;obtain⟨er,Ke⟩:=aF (dh ag q x);have HE:=af Ke;rw[Ke]at HP
 have HP:(er=0/\(er==0)=true/\pp= .ok (q,x))\/(er≠0/\(er != 0)=true/\pp= .error (er,0)):=by
  rcases HP.oo with⟨h,e⟩|⟨h,e⟩
  ·exact .inl ⟨h,by simpa using h,e⟩
  exact .inr ⟨h,by simpa using h,e⟩
 rcases HP with⟨h0,z0,rfl⟩|⟨h0,z0,rfl⟩
 all_goals
  have Kj: ∀(fn:Fn) (first cap:Array aAY) (w:aAX),(aBB fn first cap).run prog w= .ok (.func fn first cap) w:=fun _ _ _ _=>rfl
  go_enter_defers func82,ntmps82
  go_wp2_with (first|(go_at_call 142;refine aK (KN.oo _) ?_;rw[HA.oo])|fail)
  refine TK.oo.mono ?_;rintro e w2 ⟨a,c,rfl,hO,E2⟩;subst hu;have Ga:=E2.size;have RC:=af (aiz (eR.new (ag:=ag) (au.mono hO (dW _)) HS.oo ((HG.oo.below (Nq w)).below E2)));have E2:=af E2;go_wp2_with fail;refine RC.oo.mono ?_;rintro e w4 h;obtain⟨k1,-, ⟨y,hy,rfl,dm,iI⟩,R3,S3⟩:=h.ez (show _=aBz ((q,x),l) by rw[jg];exact HC.oo);have S:St (Hr w) w4 w2.heap.size:=(bX E2.oo).trans ((bX (al w2 (Yj ag s a (lex 0 s).length c))).trans S3);have hrb:w.heap.size+2<w2.heap.size:=by simp at Ga;omega
  have FV:=S3.grown.size;obtain⟨v1,v2,v3,f1,f2,f3⟩:=akc S hrb;have dm:=dm.mono (B':=w.heap.size+3) aC;have aAd:=f1 0;have aAf:=f2 0;have aAg:=f3 0;obtain⟨p0,p1,p2,p3,p4,p5,p6⟩:=v1.pI;have aN:w2.heap.size≠w.heap.size:=ah;have B4:aAW w.heap.size w w4:=(Nq w).grown S.grown aC (fun r hr=>by simp at hr;omega);have aAN:w.heap.size+3<=w4.heap.size:=by simp at FV;omega
  have I5:=dm.kept (w':=pC w4 w.heap.size q y) (bK.grown (b:=w.heap.size) Dp) (fun b hb e=>by have:=(dm.lt b hb).1;simp at e;omega);have PG:w4.grownBy (pC w4 w.heap.size q y) (aBf w.heap.size):=bK.grown Dp;unfold pC at I5 PG;have g2:=PG.cell v2 aq;have g3:=PG.cell v3 aC;have B4:=B4.grown PG ah (fun r hr=>by simp at hr;omega);have bx:=((((((v1.set 0 (.int .i64 q)).set 1 (.int .i64 y.kind)).set 2 (.int .i64 y.th.aO)).set 3 (.int .i64 y.th.aR)).set 4 (.string (tx y.th.aj))).set 5 (.int .i64 y.val)).set 6 (.slice y.a y.aP.length y.c);have F1:=af f1;have F2:=af f2;have F3:=af f3;have AI: ∀a:Nat,a<w.heap.size+3->a<(pC w4 w.heap.size q y).heap.size:=fun a h=>by simp;omega
  unfold pC at AI;have bx:=af bx;have g2:=af g2;have g3:=af g3;have AI:=af AI;have hy:=af hy;have iI:=af iI;have CK:=af (NH ag q y _ I5.su);rw[<-abC,hy.oo,HE.oo]at CK;have I5:=af I5;have B4:=af B4;go_wp2_with fail;refine aQ CK.oo fun w5 E5=>?_
  have d2:=(E5.cell (p:=⟨w.heap.size+1,0,none⟩) (AI.oo (w.heap.size+1) ah)).trans g2.oo;have d3:=(E5.cell (p:=⟨w.heap.size+1+1,0,none⟩) (AI.oo (w.heap.size+1+1) ah)).trans g3.oo;have h10: ∀j,w5.frozen? ⟨w.heap.size,j,none⟩=false:=fun j=>by rw[E5.frozen (p:=⟨w.heap.size,j,none⟩) (AI.oo (w.heap.size) ah)];simp only[BP];exact F1.oo j
  have h20: ∀j,w5.frozen? ⟨w.heap.size+1,j,none⟩=false:=fun j=>by rw[E5.frozen (p:=⟨w.heap.size+1,j,none⟩) (AI.oo (w.heap.size+1) ah)];simp only[BP];exact F2.oo j
  have h30: ∀j,w5.frozen? ⟨w.heap.size+1+1,j,none⟩=false:=fun j=>by rw[E5.frozen (p:=⟨w.heap.size+1+1,j,none⟩) (AI.oo (w.heap.size+1+1) ah)];simp only[BP];exact F3.oo j
  have b5:=bx.oo.below E5;obtain⟨q0,q1,q2,q3,q4,q5,q6⟩:=b5.pI;have I6:=af (I5.oo.keep E5);have B5:=af (aI B4.oo E5);go_wp2_with fail;refine Jh (f:=156) (args:=#[.pointer (some ⟨w.heap.size,0,none⟩),.pointer (some ⟨w.heap.size+1,0,none⟩),.pointer (some ⟨w.heap.size+1+1,0,none⟩)]) aq (by simp[go_sem]) ?_;refine(ang ⟨w.heap.size,0,none⟩ ⟨w.heap.size+1,0,none⟩ ⟨w.heap.size+1+1,0,none⟩ _).mono ?_;rintro e u' w6 ⟨rfl,rfl,rfl⟩
 ·refine⟨.tuple #[vC q y,.int .i64 0,.int .i64 0],by simp[results,results82,go_sem,q0,q1,q2,q3,q4,q5,q6,d2,d3],?_⟩
  exact aoc B5.oo I6.oo iI.oo hy.oo rfl ((bK.refl _ _).put 0 _) ((bK.refl _ _).put 0 _) ((((((((bK.refl _ _).put 0 _).put 1 _).put 2 _).put 3 _).put 4 _).put 5 _).put 6 _)
 refine⟨.tuple #[.agg #[.int .i64 0,.int .i64 0,.int .i64 0,.int .i64 0,.string ⟨#[]⟩,.int .i64 0,.slice none 0 0],.int .i64 er,.int .i64 0],by simp[results,results82,go_sem,q0,q1,q2,q3,q4,q5,q6,d2,d3],?_⟩
 exact aod B5.oo rfl ((bK.refl _ _).put 0 _) ((bK.refl _ _).put 0 _) ((((((((bK.refl _ _).put 0 _).put 1 _).put 2 _).put 3 _).put 4 _).put 5 _).put 6 _)
theorem amN{ag:Int}{s:Tx}(hm:s.length<=9223372036854775807)(w:aAX)(g:Gl w):aA7 prog 82 #[.int .i64 ag,.string (tx s)] w (pg (dI ag s) w):=by
 cases h:bD ag with
 |false=>exact amO h w
 | true=>
   rcases iA 262144 s.length with hl|hl
   ·exact amP h hl hm w
   cases hc:mJ ag (lex 0 s)with
   |error l=>exact amQ h hl hc w g
   | ok p=>
     obtain⟨⟨q,x⟩,l⟩:=p;exact amR h hl hc w g
end Go.Proofs.YtkbbgjloifmmbaaGreatDoor
