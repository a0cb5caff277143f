/- What ReadBlanksP leans on, part 20. -/
import Derived.Test.YtkbbgjloifmmbaaGreatDoorPc18
import Derived.Test.YtkbbgjloifmmbaaGreatDoorPc19
set_option linter.unusedVariables false
set_option maxRecDepth 100000
set_option maxHeartbeats 6400000
open _root_.Go.Proofs.Tryz
open _root_.Option renaming some->an7
open _root_.List renaming length_drop->aoN,mem_append->aok,length_append->aoW,tail_drop->apR,nodup_cons->apU,dropWhile_append_of_pos->apu,takeWhile_cons_of_pos->aps,drop_eq_nil_of_le->anj,dropWhile_suffix->apr,length_singleton->apW,mem_cons->anE,mem_singleton->aoi,not_mem_nil->aoa
open _root_.Nat renaming le_refl->anb,add_zero->ano,lt_of_lt_of_le->anW
open _root_.Go.Exit renaming jump->apS
open _root_.Except renaming error->apT,ok->apV
open _root_.Go.Instr renaming sliceAt->anh
open _root_.Go.Calls renaming regrown_of->apX
namespace Go.Proofs.YtkbbgjloifmmbaaGreatDoor
open Go.RowKit Go.Sort
variable{af:Int}{B:Nat}{x:Nd}{w:World}
theorem aA.set{b:Nat}{l:List Value}(h:aA w b l)(k:Nat)(v:Value):aA (w.setCell ⟨b,k,none⟩ v) b (l.set k v):=by
 refine⟨by simpa using h.1,fun j hj=>?_⟩;rw[List.length_set]at hj;have h1:=h.2 j hj
 by_cases e:k=j
 ·subst e
  rw[List.getElem?_set_self hj];rw[List.getElem?_eq_getElem hj]at h1;exact World.cell?_setCell_same _ _ _ h1
 rw[List.getElem?_set_ne e,World.cell?_setCell_other _ _ _ _ (by intro e2;injection e2 with _ e3;exact e e3)]
 exact h1
theorem Tf(w:World)(p q:Addr)(v:Value):(w.setCell p v).frozen? q=w.frozen? q:=World.frozen?_setCell _ _ _ _
structure oM(w w1:World)(B rb b5:Nat)(af:Int)(s:Tx)(a:Option Addr)(c:Nat)(L:List Tok)(k:Nat)(n:Int):Prop where
 rd:cU w1 B rb af s a c L k
 st:St (w.alloc iz) w1 rb
 bx: ∃m:Int,aA w1 b5 [.int .i64 n,.int .i64 m,.string ⟨#[]⟩]
 f5: ∀j,w1.frozen? ⟨b5,j,none⟩=false
 lo:w.heap.size<b5
section
variable {w w1 w2:World} {B rb b5:Nat} {af:Int} {s:Tx} {a:Option Addr} {c:Nat} {L:List Tok} {k:Nat} {n:Int}
theorem oM.below(h:oM w w1 B rb b5 af s a c L k n)(hb:Below w1.heap.size w1 w2):oM w w2 B rb b5 af s a c L k n:=by
 obtain⟨m,hm⟩:=h.bx;exact⟨h.rd.below hb,h.st.trans (aX hb),⟨m,hm.below hb⟩,fun j=>by rw[hb.frozen (p:=⟨b5,j,none⟩) hm.1];exact h.f5 j,h.lo⟩
theorem oM.put(h:oM w w1 B rb b5 af s a c L k n)(hr:b5≠rb)(ht:L≠[]->bk a<w.heap.size)(m:Int):oM w (w1.setCell ⟨b5,1,none⟩ (.int .i64 m)) B rb b5 af s a c L k n/\aA (w1.setCell ⟨b5,1,none⟩ (.int .i64 m)) b5 [.int .i64 n,.int .i64 m,.string ⟨#[]⟩]:=by
 obtain⟨m0,hm⟩:=h.bx;have hb:=hm.set 1 (.int .i64 m);exact⟨⟨h.rd.put hr (fun hL=>by have:=ht hL;have:=h.lo;omega) _ _,St.put h.st (by have:=h.lo;simp;omega) _ _,⟨m,hb⟩,fun j=>by rw[Tf];exact h.f5 j,h.lo⟩,hb⟩
end
def WS(n:Int)(r:List Tok)(ro:Option Nat):PR Th:=match ro with
 |none=>.error r
 |some k=>.ok (⟨n,k,[]⟩,r.tail)
theorem ajU(af:Int)(m:Nat)(h:(m:Int)<dO af):ek af m≠[]:=by
 unfold ek;split
 ·next e=>
  subst e;have h2:m<15:=by unfold dO at h;rw[if_pos rfl]at h;omega
  have: ∀k:Fin 15,cI k.1≠[]:=by decide
  exact this ⟨m,h2⟩
 simp[iu]
theorem ajY(af:Int):dh af []=none:=by
 unfold dh;rw[List.find?_eq_none];intro m hm;simp[ajU af m (by have:=List.mem_range.1 hm;omega)]
theorem ajX{l:Tx}{j:Nat}(h:dh af l=some j):l≠[]:=fun e=>by rw[e,ajY]at h;cases h
theorem ach{rb:Nat}{s:Tx}{a:Option Addr}{c:Nat}{L:List Tok}{k:Nat}(R:cU w B rb af s a c L k)(hsh: ∀t∈L,t.1.length<=s.length)(g:Gl w)(gB:au (L.drop k)≠[91])(hn:qz (au (L.drop k))=true):
 Calls prog 350 #[.pointer (some ⟨rb,0,none⟩)] w (gu w B rb af s a c L (eY af (L.drop k)) VT):=by
 obtain⟨-, -, -, -, -, hrb⟩:=R.cells;have htk:L≠[]->bk a<w.heap.size:=fun h=>R.toks.lt kr (by omega) h
 have R0:=R.below (al w iz);have g0:=g.below (al w iz);have PK:=hid (rS R0);unfold pX at PK;have IC:=hid (fun(w:World) (R:cU w B rb af s a c L k) (g:Gl w)=>RV R hsh 0 15 (by decide) (by decide) g);have TK:=hid (fun(w:World) (k':Nat) (R:cU w B rb af s a c L k')=>vG R [58] (by decide));rw[alh gB hn];have HR:=hid R0;generalize au (L.drop k)=u at*;have z:((tx u).toList==[91])=false:=cY _ _ gB
 obtain⟨d,r0,rfl,hd⟩: ∃d r,u=d::r/\(aD d||d==45)=true:=by
  cases u with
  |nil=>cases hn
  |cons d r=>exact⟨d,r,rfl,hn⟩
 have z2:((tx (d::r0)).toList==[])=false:=cY _ _ (by simp);have H9:(tx (d::r0)).toList.isEmpty=false:=by rw[<-List.beq_nil_eq];exact z2
 have ix:=kJ (d::r0) d rfl;generalize tx (d::r0)=u at*;obtain⟨b,hb⟩:=aj (aD d);have HD:=hid hb
 have z3:b=false->((d.toNat:Int)==45)=true:=fun h=>by
  subst h;rw[hb,Bool.false_or]at hd;have:d=45:=by simpa using hd
  rw[this];decide
 have rJ:w.heap.size≠rb:=by omega
 have jW:=hid (show L≠[]->bk a<w.heap.size from htk);clear hsh gB R R0 hn hd hb htk g
 have main: ∀(p:PR Int),jM 0 15 (L.drop k)=p->Calls prog 350 #[.pointer (some ⟨rb,0,none⟩)] w (gu w B rb af s a c L (match p with
  | .error e=>.error e
  | .ok (n,r)=>match bg [58] r with
    | .error e=>.error e
    | .ok r=>match dh af (au r)with
      |none=>.error r
      |some k=>.ok (⟨n,k,[]⟩,r.tail)) VT):=by
  intro p hp;rw[hp]at IC;clear hp;cases p with
  | error l=>
    simp only;cases b
    all_goals
     (try have z3:=z3 rfl)
     go_in;go_wp2_with fail;refine PK.out.mono ?_;rintro e w1 ⟨rfl,q⟩;have IC:=hid (IC.out _ (HR.out.below q.bt) (g0.below q.bt));have S:=hid ((St.new (St.refl w rb) iz).trans (aX (bw:=rb) q.bt));clear q
     go_wp2_with (go_at_call 298;refine av (jH d _) ?_;rw[HD.out])
     refine IC.out.mono ?_;rintro e w2 h;obtain⟨rfl,S3⟩:=h.err rfl;unfold fG;go_wp2_with fail;exact⟨rfl,S.out.trans S3,.inl ⟨_,rfl,rfl⟩⟩
  | ok q=>
    obtain⟨n,r⟩:=q;simp only;cases FJ:bg [58] r with
    | error l=>
      simp only;cases b
      all_goals
       (try have z3:=z3 rfl)
       go_in;go_wp2_with fail;refine PK.out.mono ?_;rintro e w1 ⟨rfl,q⟩;have IC:=hid (IC.out _ (HR.out.below q.bt) (g0.below q.bt));have S:=hid (aX (bw:=rb) q.bt);clear q
       go_wp2_with (go_at_call 298;refine av (jH d _) ?_;rw[HD.out])
       refine IC.out.mono ?_;rintro e w2 h;obtain⟨k2,rfl,hv,R3,S3⟩:=h.cX rfl;unfold VI at hv;subst hv;have TC:=hid (TK.out _ k2 (R3.below (al _ (.cells #[.int .i64 n,.int .i64 0,.string ⟨#[]⟩] 25))));have HT:=hid FJ;have vZ:rb<w2.heap.size:=R3.cells.2.2.2.2.2;have hs2:=(S.out.trans S3).grown.size;have S:=hid (St.new (S.out.trans S3) (.cells #[.int .i64 n,.int .i64 0,.string ⟨#[]⟩] 25));clear R3 S3 h FJ;go_wp2_with fail;refine TC.out.mono ?_;rintro e w3 h;obtain⟨rfl,S4⟩:=h.err (show _=apT l by rw[HT.out];rfl);unfold fG;go_wp2_with fail;exact⟨rfl,(St.new (St.refl w rb) iz).trans (S.out.trans S4),.inl ⟨_,rfl,rfl⟩⟩
    | ok r2=>
      simp only;obtain⟨ro,hro⟩:=aj (dh af (au r2));rw[hro];show Calls _ _ _ _ (gu w B rb af s a c L (WS n r2 ro) VT);cases b
      all_goals
       (try have z3:=z3 rfl)
       go_in;go_wp2_with fail;refine PK.out.mono ?_;rintro e w1 ⟨rfl,q⟩;have IC:=hid (IC.out _ (HR.out.below q.bt) (g0.below q.bt));have S:=hid (aX (bw:=rb) q.bt);clear q
       go_wp2_with (go_at_call 298;refine av (jH d _) ?_;rw[HD.out])
       refine IC.out.mono ?_;rintro e w2 h;obtain⟨k2,rfl,hv,R3,S3⟩:=h.cX rfl;unfold VI at hv;subst hv;have TC:=hid (TK.out _ k2 (R3.below (al _ (.cells #[.int .i64 n,.int .i64 0,.string ⟨#[]⟩] 25))));have HT:=hid FJ;have vZ:rb<w2.heap.size:=R3.cells.2.2.2.2.2;have hs2:=(S.out.trans S3).grown.size;have S:=hid (St.new (S.out.trans S3) (.cells #[.int .i64 n,.int .i64 0,.string ⟨#[]⟩] 25));clear R3 S3 h FJ;go_wp2_with fail;refine TC.out.mono ?_;rintro e w3 h;obtain⟨k3,rfl,hv,R5,S4⟩:=h.cX (show _=apV ((),r2) by rw[HT.out];rfl);unfold VU at hv;subst hv;have N2:oM w w3 B rb w2.heap.size af s a c L k3 n:=⟨R5,S.out.trans S4,⟨0,gj S4 vZ⟩,fun j=>(eW S4 (b:=w2.heap.size) (by simp) (by omega) j).trans (aV w2 _ _ j),by simp at hs2;omega⟩;have pV:=hid (fun(w:World) (R:cU w B rb af s a c L k3)=>rS R);unfold pX at pV;obtain⟨v,hv⟩:=aj (au (L.drop k3));rw[hv]at pV;have RO:=hid (fun w=>ab7 af v w);rw[<-hv,hro,hv]at RO;have HRO:=hid hro;have KD:w2.heap.size≠rb:=by omega
       clear R5 S4 h S hs2 TC HT hro IC HR PK TK;have N2:=N2.below (below_drewN w3 1);have N2:oM w w3.drew B rb w2.heap.size af s a c L k3 n:=N2;have c0:=N2.rd.cells.1;obtain⟨m,hm⟩:=N2.bx;have p1:=hm.get 1 _ rfl;have f1:=N2.f5 1;go_wp2_with fail
       go_region_held3 (fun w'=>oM w w' B rb w2.heap.size af s a c L k3 n/\w'.cell? ⟨rb,0,none⟩=some (.int .i64 af)) (first|exact⟨by assumption,by assumption⟩|exact⟨(oM.put (by assumption) KD jW.out _).1,(oM.put (by assumption) KD jW.out _).1.rd.cells.1⟩)
        (first
         |(go_at_call 236;refine(pV.out _ N2.rd).mono ?_;rintro e w' ⟨rfl,q⟩;have N2:=N2.below q.bt;have c0:=N2.rd.cells.1;obtain⟨m,hm⟩:=N2.bx;have p1:=hm.get 1 _ rfl;have f1:=N2.f5 1)
         |(go_at_call 357;refine(RO.out _).mono ?_;rintro e w' ⟨rfl,E'⟩;have N2:=N2.below E';have c0:=N2.rd.cells.1;obtain⟨m,hm⟩:=N2.bx;have p1:=hm.get 1 _ rfl;have f1:=N2.f5 1))
       obtain⟨N3,b3⟩:=oM.put N2 KD jW.out (Cy ro);clear N2 hm p1 f1 c0 pV RO
       revert N3 b3
       generalize w'.setCell ⟨w2.heap.size,1,none⟩ (.int .i64 (Cy ro))=w5;intro N3 b3;have R3:=N3.rd;obtain⟨c0,c1,c2,c3,f3,lt⟩:=R3.cells;obtain⟨q0,q1,q2⟩:=b3.oa;have HN:=hid N3;have FL:=hid (Bb R3);have b2:=gj N3.st hrb;have fz:=fun j=>(eW N3.st (b:=w.heap.size) (by simp) (by omega) j).trans (aV w _ _ j)
       obtain⟨p0,p1,p2⟩:=b2.oa;clear N3 b3 R3 b2;cases ro with
       | none=>
         have zo:Cy none= -1:=rfl;rw[zo]at q1;go_wp2_with fail;refine FL.out.mono ?_;rintro e w6 ⟨rfl,q⟩;unfold fG;go_wp2_with fail;exact⟨rfl,(St.new (St.refl w rb) iz).trans (HN.out.st.trans (aX q.bt)),.inl ⟨_,rfl,rfl⟩⟩
       | some j=>
         have zo:Cy (some j)=(j:Int):=rfl;rw[zo]at q1;have zl:decide ((j:Int)<0)=false:=by simp
         have qn:=uz (ajX HRO.out);obtain⟨R6,S6⟩:=HN.out.rd.next qn;have HR6:=hid R6;have HS6:=hid S6;have hsm:=HN.out.rd.sm;have hne:w.heap.size≠rb:=by omega
         have gm:=hid (show L≠[]->bk a≠w.heap.size from fun h=>by have:=jW.out h;omega);clear R6 S6;go_wp2_with fail;exact bodyPost_ret (by simp[results,results350,go_sem,p0,p1,p2,aS]) rfl ⟨St.put (St.put (St.put ((St.new (St.refl w rb) iz).trans (HN.out.st.trans HS6.out)) (anb _) _ _) (anb _) _ _) (anb _) _ _,.inr ⟨⟨n,j,[]⟩,k3+1,by simp[WS],⟨rfl,by simp⟩,((HR6.out.put hne gm.out _ _).put hne gm.out _ _).put hne gm.out _ _⟩⟩
 exact main _ rfl
inductive aZ(w:World)(B:Nat):Nd->Prop where
 |mk (x:Nd) (hl:x.th.loc.length<=262144) (hn:x.kids.length<=1000000) (ho:iD w B x.a x.kids.length x.c x.kids) (h: ∀k∈x.kids,aZ w B k):aZ w B x
theorem aZ.loc(h:aZ w B x):x.th.loc.length<=262144:=by cases h;assumption
theorem aZ.few(h:aZ w B x):x.kids.length<=1000000:=by cases h;assumption
theorem aZ.own(h:aZ w B x):iD w B x.a x.kids.length x.c x.kids:=by cases h;assumption
theorem aZ.jz(h:aZ w B x): ∀k∈x.kids,aZ w B k:=by cases h;assumption
def kM(a:Option Addr):List Nat:=match a with
 |none=>[]
 |some p=>[p.block]
mutual
def dL:Nd->List Nat
 | .mk _ _ _ a _ l=>kM a++ju l
def ju:List Nd->List Nat
 |[]=>[]
 |x::r=>dL x++ju r
end
theorem qZ(x:Nd):dL x=kM x.a++ju x.kids:=by cases x;rw[dL];rfl
theorem EV:ju []=[]:=by rw[ju]
theorem uh(x:Nd)(r:List Nd):ju (x::r)=dL x++ju r:=by rw[ju]
theorem Q7: ∀(l r:List Nd),ju (l++r)=ju l++ju r
 |[],r=>by simp[EV]
 |x::l,r=>by rw[List.cons_append,uh,uh,Q7 l r,List.append_assoc]
theorem EY(x:Nd):ju [x]=dL x:=by rw[uh,EV,List.append_nil]
theorem Gv{b:Nat}: ∀{l:List Nd},b∈ju l-> ∃k∈l,b∈dL k
 |[],h=>by rw[EV]at h;cases h
 | x::r,h=>by
   rw[uh,aok]at h;rcases h with h|h
   ·exact⟨x,List.mem_cons_self,h⟩
   obtain⟨k,hk,hb⟩:=Gv h;exact⟨k,List.mem_cons_of_mem _ hk,hb⟩
theorem Cc{b:Nat}{k:Nd}: ∀{l:List Nd},k∈l->b∈dL k->b∈ju l
 | x::r,h,hb=>by
   rw[uh,aok];rcases anE.1 h with rfl|h
   ·exact .inl hb
   exact .inr (Cc h hb)
theorem aZ.lt{w:World}{B:Nat}: ∀{x:Nd},aZ w B x-> ∀b∈dL x,B<=b/\b<w.heap.size:=by
 intro x
 induction x using Nd.ind with
 | h x ih=>
   intro h b hb;rw[qZ,aok]at hb;rcases hb with hb|hb
   ·cases ha:x.a with
    |none=>rw[ha]at hb;cases hb
    | some p=>
      rw[ha]at hb;have hp:b=p.block:=by simpa[kM]using hb
      have:=Own.lt h.own (by rw[ha];simp);rw[ha]at this;rw[hp];exact this
   obtain⟨k,hk,hb⟩:=Gv hb
   exact ih k hk (h.jz k hk) b hb
theorem aZ.kept{w w':World}{B:Nat}{r:Option Nat}(hg:w.grownBy w' r): ∀{x:Nd},aZ w B x->(∀b∈dL x,some b≠r)->aZ w' B x:=by
 intro x
 induction x using Nd.ind with
 | h x ih=>
   intro h hb;refine⟨x,h.loc,h.few,Own.kept h.own hg ?_,fun k hk=>ih k hk (h.jz k hk) fun b hb'=>hb b ?_⟩
   ·cases ha:x.a with
    |none=>exact .inl rfl
    |some p=>exact .inr (hb _ (by rw[qZ,ha];simp[kM,bk]))
   rw[qZ,aok];exact .inr (Cc hk hb')
theorem aZ.keep{w w':World}{B:Nat}(hb:Below w.heap.size w w'): ∀{x:Nd},aZ w B x->aZ w' B x:=by
 intro x
 induction x using Nd.ind with
 |h x ih=>intro h;exact⟨x,h.loc,h.few,Own.below h.own hb,fun k hk=>ih k hk (h.jz k hk)⟩
theorem aZ.mono{w:World}{B B':Nat}(hB:B'<=B): ∀{x:Nd},aZ w B x->aZ w B' x:=by
 intro x
 induction x using Nd.ind with
 |h x ih=>intro h;exact⟨x,h.loc,h.few,Own.mono h.own hB,fun k hk=>ih k hk (h.jz k hk)⟩
theorem aZ.st{w w':World}{B rb:Nat}{x:Nd}(h:aZ w B x)(hs:St w w' rb)(hr:rb<B):aZ w' B x:=
 aZ.kept hs.grown h fun b hb e=>by
  have:=(h.lt b hb).1;simp at e;omega
theorem iD.els{w:World}{B n c:Nat}{a:Option Addr}{l:List Nd}(h:iD w B a n c l)(hl:l.length<=1000000):bK cN w a l:=by
 refine⟨Own.row h,?_⟩;omega
theorem aZ.lK{w:World}{B:Nat}: ∀{x:Nd},aZ w B x->fW w x:=by
 intro x
 induction x using Nd.ind with
 | h x ih=>
   intro h;exact⟨x,by have:=h.loc;omega,iD.els h.own h.few,h.own.cap.1,fun k hk=>ih k hk (h.jz k hk)⟩
structure fM(w:World)(B:Nat)(a:Option Addr)(c:Nat)(l:List Nd):Prop where
 own:iD w B a l.length c l
 kids: ∀k∈l,aZ w B k
 nd:(bk a::ju l).Nodup
 ne:a≠none
def VN(B:Nat)(x:Nd)(e:Ending)(w:World):Prop:= ∃y,bG y=x/\e= .returned (vN y)/\aZ w B y/\(dL y).Nodup
section
variable {w w1 w2:World} {B rb:Nat} {a a':Option Addr} {c c':Nat} {l:List Nd} {x:Nd}
theorem fM.lt(h:fM w B a c l):B<=bk a/\bk a<w.heap.size:=Own.lt h.own h.ne
theorem fM.all(h:fM w B a c l): ∀b∈ju l,B<=b/\b<w.heap.size:=fun b hb=>by
 obtain⟨k,hk,h2⟩:=Gv hb;exact(h.kids k hk).lt b h2
theorem fM.below(h:fM w B a c l)(hb:Below w.heap.size w w1):fM w1 B a c l:=
 ⟨Own.below h.own hb,fun k hk=>(h.kids k hk).keep hb,h.nd,h.ne⟩
theorem fM.st(h:fM w B a c l)(hs:St w w1 rb)(hr:rb<B):fM w1 B a c l:=by
 refine⟨Own.kept h.own hs.grown (.inr ?_),fun k hk=>(h.kids k hk).st hs hr,h.nd,h.ne⟩;have:=h.lt.1;simp;omega
theorem fM.mono{B':Nat}(h:fM w B a c l)(hB:B'<=B):fM w B' a c l:=
 ⟨Own.mono h.own hB,fun k hk=>(h.kids k hk).mono hB,h.nd,h.ne⟩
theorem fM.one(ho:aZ w B x)(hn:(dL x).Nodup)(hB:B<=w.heap.size):fM (w.alloc (bN x)) B (an7 ⟨w.heap.size,0,none⟩) 1 [x]:=by
 refine⟨Own.mono (Own.afr w x) hB,fun k hk=>?_,?_,by simp⟩
 ·rw[aoi.1 hk];exact ho.keep (al _ _)
 rw[EY,apU]
 refine⟨fun hb=>?_,hn⟩;have:=(ho.lt _ hb).2;simp only[gv]at this;omega
theorem fM.app(h:fM w B a c l)(hB:B<=w.heap.size)(hs:St w w1 rb)(hr:rb<B)(ho:aZ w1 w.heap.size x)(hn:(dL x).Nodup)(hO:iD w2 B a' (l++[x]).length c' (l++[x]))(hg:jF w1 w2 a c a' c')(ha':a'≠none):fM w2 B a' c' (l++[x])/\St w1 w2 (bk a):=by
 have h1:=h.st hs hr;have hlt:=h.lt;have hsz:=hs.grown.size
 obtain⟨p,hp⟩: ∃p,a=an7 p:=by
  cases a with
  |none=>exact absurd rfl h.ne
  |some p=>exact⟨p,rfl⟩
 have hgr:w1.grownBy w2 (an7 (bk a)):=by
  have:=hg.step.grown;rw[hp]at this⊢;exact this
 have hnd:=h.nd;rw[apU]at hnd;refine⟨⟨hO,fun k hk=>?_,?_,ha'⟩,⟨by simpa using hgr,.inl rfl⟩⟩
 ·rcases aok.1 hk with hk|hk
  ·refine(h1.kids k hk).kept hgr fun b hb e=>?_
   simp at e;subst e;exact hnd.1 (Cc hk hb)
  rw[aoi.1 hk]
  refine(ho.mono hB).kept hgr fun b hb e=>?_
  simp at e;subst e;have:=(ho.lt _ hb).1;omega
 rw[Q7,EY,apU,List.nodup_append]
 refine⟨fun hb=>?_,hnd.2,hn,fun b1 dH b2 de e=>?_⟩
 ·rcases hg with⟨rfl,-, -⟩|⟨hge, -⟩
  ·rcases aok.1 hb with hb|hb
   ·exact hnd.1 hb
   have:=(ho.lt _ hb).1;omega
  rcases aok.1 hb with hb|hb
  ·have:=(h.all _ hb).2;omega
  have:=(ho.lt _ hb).2;omega
 have h3:=(h.all _ dH).2
 have h4:=(ho.lt _ de).1;omega
theorem fM.node(h:fM w B a c l)(k:Int)(t:Th)(v:Int)(ht:t.loc.length<=262144)(hl:l.length<=1000000):aZ w B (.mk k t v a c l)/\(dL (.mk k t v a c l)).Nodup:=by
 refine⟨⟨_,ht,hl,h.own,h.kids⟩,?_⟩;rw[qZ];have:=h.nd;cases a with
 |none=>exact absurd rfl h.ne
 |some p=>exact this
theorem aZ.leaf(w:World)(B:Nat)(k:Int)(t:Th)(v:Int)(ht:t.loc.length<=262144):aZ w B (.mk k t v none 0 [])/\(dL (.mk k t v none 0 [])).Nodup:=
 ⟨⟨_,ht,by simp[Nd.kids],Own.nil _ _ _ _,fun k hk=>absurd hk (by simp[Nd.kids])⟩,by rw[qZ];simp[kM,Nd.a,Nd.kids,EV]⟩
theorem fM.y9(h:fM w B a c [x]):aZ w B x/\(dL x).Nodup:=by
 refine⟨h.kids x (by simp),?_⟩;have:=h.nd;rw[EY,apU]at this;exact this.2
end
abbrev wK(s:Tx)(k:Nat)(t:aG):List Value:=.string (tx s):: .int .i64 k::cT t
structure cM(w1 w:World)(s:Tx)(k:Nat)(t:aG):Prop where
 own:Own w w1.heap.size 68 14 (an7 ⟨w1.heap.size,0,none⟩) 1 1 (wK s k t)
 bu:Below w1.heap.size w1 w
 gl:Gl w1
 sl:s.length<=262144
 le:k<=s.length
section
variable {w1 w:World} {s:Tx} {k:Nat} {t:aG}
theorem cM.bx(h:cM w1 w s k t):aA w w1.heap.size (wK s k t):=by
 refine⟨(Own.lt h.own (by simp)).2,fun j hj=>?_⟩;have:=(Own.row h.own).cell j hj;simpa using this
theorem cM.dG(h:cM w1 w s k t)(j:Nat):w.frozen? ⟨w1.heap.size,j,none⟩=false:=by
 have:=Own.frozen h.own (by simp) j;simpa using this
theorem cM.below{w':World}(h:cM w1 w s k t)(hb:Below w.heap.size w w'):cM w1 w' s k t:=
 ⟨Own.below h.own hb,h.bu.trans (hb.mono h.bu.size),h.gl,h.sl,h.le⟩
theorem cM.kept{w':World}{r:Option Nat}(h:cM w1 w s k t)(hg:w.grownBy w' r)(hr: ∀b,r=an7 b->w1.heap.size<b):cM w1 w' s k t:=by
 refine⟨Own.kept h.own hg (.inr ?_),h.bu.grown hg h.bu.size (fun b hb=>Nat.le_of_lt (hr b hb)),h.gl,h.sl,h.le⟩;cases r with
 |none=>simp
 |some b=>have:=hr b rfl;simp;omega
theorem cM.g(h:cM w1 w s k t):Gl w:=h.gl.below h.bu
theorem cM.lt(h:cM w1 w s k t):w1.heap.size<w.heap.size:=(Own.lt h.own (by simp)).2
theorem cM.put(h:cM w1 w s k t)(j:Nat)(v:Value){k':Nat}{t':aG}(e:(wK s k t).set j v=wK s k' t')(hk:k'<=s.length):cM w1 (w.setCell ⟨w1.heap.size,j,none⟩ v) s k' t'/\St w (w.setCell ⟨w1.heap.size,j,none⟩ v) w1.heap.size:=by
 obtain⟨o,st⟩:=Own.set h.own (by simp) j v;simp only[gv,gX,Nat.zero_add]at o st;rw[e]at o;exact⟨⟨o,h.bu.setCell (anb _) _,h.gl,h.sl,hk⟩,st⟩
end
def pW(er:Int)(k:Nat):Ending:=.panicked [{ v:=.iface 65 (.agg #[.int .i64 er,.int .i64 k]),recovered:=false }]
def sJ(N:Nat)(r:Tx)(e:Ending):Prop:=
 (ax r=[]/\e= .returned (.tuple #[.string (tx []),.int .i64 N,.int .i64 N,.bool false]))\/
 ∃b,ax r≠[]/\(∀c∈b,aq c=true)/\(10:UInt8)∉b/\(b.length<=bJ N (ax r)/\b.length+(ax r).length<=r.length)/\e= .returned (.tuple #[.string (tx (b++(ax r).takeWhile (· != 10))),.int .i64 (bJ N (ax r):Nat),.int .i64 (N-(bE (ax r)).length:Nat),.bool true])
theorem amd{P:Program}{a:Act}{w:World}{Q:Exit->Act->World->Prop}{c X:Code}(l:Nat)(J:Act->World->Prop)(μ:Act->World->Nat)(hf:findLabel c l=some (.seq .skip X))
 (first:(∀a w,J a w->X.wp P (apS l J Q) a w)->c.wp P (apS l J Q) a w)
 (pass: ∀a w,J a w->X.wp P (apS l (fun a' w'=>J a' w'/\μ a' w'<μ a w) Q) a w):(Code.scope c).wp P Q a w:=by
 refine wp_scope_jumps l J μ hf (first fun a w h=>wp_mono (pass a w h) ?_) fun a w h=>wp_seq (wp_skip (pass a w h))
 intro e a w h;cases e<;>simp only[apS]at h⊢
 case goto l'=>exact⟨h.1,h.2.1⟩
 all_goals exact h
theorem Cn{u b:Tx}{c:UInt8}(hu:u.head?=some c)(hc:aq c=false)(hb: ∀c∈b,aq c=true):ak (b++u.takeWhile (· != 10))=aK u/\Tr (aK u)/\(aK u).head?=some c:=by
 cases u with
 |nil=>cases hu
 | cons d r=>
   obtain rfl:d=c:=by simpa using hu
   have h10:(d != 10)=true:=by
    rw[bne_iff_ne];rintro rfl;revert hc;decide
   have e2:cr (d::r.takeWhile (· != 10))=d::cr (r.takeWhile (· != 10)):=by
    have:=Du [] (r.takeWhile (· != 10)) d hc;rw[tN,List.nil_append]at this
    have e3: ∃m,cr (d::r.takeWhile (· != 10))=d::m:=by
     unfold cr;rw[List.reverse_cons,xP _ _ hc,List.reverse_append];exact⟨_,rfl⟩
    obtain⟨m,em⟩:=e3;rw[em,List.dropWhile_cons_of_neg (by rw[hc];decide)]at this;rw[em];exact this
   have e1:aK (d::r)=d::cr (r.takeWhile (· != 10)):=by
    unfold aK;rw[aps (p:=fun x=>x != 10) h10,e2]
   have ht:ak (b++(d::r).takeWhile (· != 10))=aK (d::r):=by
    rw[aps (p:=fun x=>x != 10) h10,Du b _ d hc,e1]
    have:b.dropWhile aq=[]:=by
     have:=apu (p:=aq) (l₂:=[]) hb;simpa using this
    rw[this];rfl
   refine⟨ht,?_,by rw[e1];rfl⟩;rw[<-ht];exact Tr.trim _
theorem agc{s:Tx}{k m:Nat}(hk:k<=s.length)(hm:((s.drop k).takeWhile (· != 10)).length=m):s.drop (min (k+m+1) s.length)=bE (s.drop k)/\min (k+m+1) s.length=s.length-(bE (s.drop k)).length:=by
 have e:=YG (s.drop k);rw[hm,List.drop_drop]at e;have hl:=congrArg List.length e;rw[aoN]at hl;refine⟨?_,by omega⟩;rw[e];rcases Nat.le_total (k+m+1) s.length with h|h
 ·rw[Nat.min_eq_left h];congr 1
 rw[Nat.min_eq_right h,anj (anb _),anj (by omega)]
theorem akA{r:Tx}(h: ∀c∈r,aq c=true):ax r=[]:=by
 have:=apu (p:=aq) (l₂:=[]) h;simpa[ax]using this
theorem wT(p:Tx):ak p=[]<-> ∀c∈p,aq c=true:=by
 constructor
 ·intro h
  have:aO p=[]:=by rw[<-uK,h,yC]
  exact Gk this
 intro h
 have h2:aO p=[]:=by
  have:=wD _ [] p (anb _) h;simpa[yC]using this
 cases e:ak p with
 |nil=>rfl
 | cons c r=>
   have h3:c∈ak p:=by rw[e];simp
   have h4:aq c=false:=Ou c (by rw[e];rfl);rw[h c (Dt h3)]at h4;cases h4
theorem alJ{c:UInt8}{r:Tx}(h:c∉r):r.takeWhile (· != c)=r:=by
 have k: ∀x∈r,(x != c)=true:=fun x hx=>by
  rw[bne_iff_ne];rintro rfl;exact h hx
 have:=List.takeWhile_append_of_pos (p:=(· != c)) (l₂:=[]) k;simpa using this
theorem adp{tw b f:Tx}(h:tw=b++ax tw)(hf:ax tw=f):tw=b++f:=by rw[<-hf];exact h
def VJ(rb k:Nat)(v:Nat->Value):Act:={ tmps:=#[.pointer (some ⟨rb,0,none⟩),undef,.string ⟨#[]⟩,.int .i64 0,.int .i64 0,.bool false,.int .i64 k,v 7,v 8,v 9,v 10,v 11,v 12,v 13,v 14,v 15,v 16,v 17,v 18,v 19,v 20,v 21,v 22,v 23,v 24,v 25,v 26,v 27,v 28,v 29,v 30,v 31,v 32,v 33,v 34,v 35,v 36,v 37,v 38,v 39,v 40,v 41,v 42,v 43,v 44,v 45,v 46,v 47,v 48,v 49,v 50,v 51,v 52,v 53,v 54,v 55,v 56,v 57,v 58,v 59,v 60,v 61,v 62,v 63,v 64,v 65,v 66,v 67,v 68,v 69,v 70,v 71,v 72,v 73,v 74,v 75,v 76,v 77,v 78],defers:=[] }
theorem GX(l:Tx)(a:Nat)(h:a<=l.length): ∀w,(anh 9 (.string (tx l)) (some (.int .i64 a)) none none).run prog w= .ok (.string (tx (l.drop a))) w:=qD l a h
theorem De(s:Tx)(rb k0:Nat)(hk0:k0<=s.length)(hl:s.length<=262144)(w:World)(c0:w.cell? ⟨rb,0,none⟩=some (.string (tx s)))(c1:w.cell? ⟨rb,1,none⟩=some (.int .i64 k0)):
 Calls prog 74 #[.pointer (some ⟨rb,0,none⟩)] w (fun e w'=>sJ s.length (s.drop k0) e/\Below w.heap.size w w'):=by
 obtain⟨u,hu⟩:=aj (ax (s.drop k0));have HU:=hid hu;have hrb:=sP c0;simp only at hrb;obtain⟨n,hn⟩:=aj ((tx s).size);have hns:n=s.length:=by rw[<-hn,aM]
 have HK:=hid hk0;have HN:=hid hns;have HL:=hid hl;have jK:n<=262144:=by omega
 have fQ:k0<=n:=by omega
 clear hu hk0 hns hl;go_in;go_wp2_with fail;refine amd 0 (fun a' w'=>Below w.heap.size w w'/\ ∃k:Nat,k<=n/\k0<=k/\a'=VJ rb k (fun i=>a'.tmps.getD i undef)/\Hid (ax (s.drop k)=u)) (fun a' _=>n-(intOf (a'.tmps.getD 6 undef)).toNat) rfl ?_ ?_
 ·intro qq
  have HRS:=hid qq;clear qq
  go_wp2
  go_step3
  rename_i hK;refine hK _ _ (HRS.out _ _ ?_);exact⟨Below.refl _ _,k0,fQ,anb _,rfl,HU⟩
 rintro a' w' ⟨E,k,hk,amJ,ha,hat⟩
 generalize (fun k=>a'.tmps.getD k undef)=v at ha;subst ha;unfold VJ;have d0:=(E.cell hrb).trans c0;have hks:k<=s.length:=by have:=HN.out;omega
 have HE:=hid E
 by_cases hkn:k<n
 ·obtain⟨m,hm⟩:=aj (((s.drop k).takeWhile (· != 10)).length)
  have zk:decide ((n:Int)<=(k:Int))=false:=ah;have sl:=GX s k hks;have IB:=hid (fun w=>LV (s.drop k) 10 w);obtain⟨i1,i2⟩:=LU 10 (s.drop k);obtain⟨x1,x2⟩:=VL (s.drop k);obtain⟨y1,y2⟩:=agc hks hm
  have hml:k+m<=s.length:=by
   have:=pM (· != 10) (s.drop k);rw[hm,aoN]at this;omega
  have hno:(10:UInt8)∉s.drop k->k+m=s.length:=fun h=>by
   rw[<-hm,alJ h,aoN];omega
  have SL:(s.take (k+m)).drop k=(s.drop k).takeWhile (· != 10):=by
   rw[List.drop_take,show k+m-k=m by omega,<-hm];exact(List.prefix_iff_eq_take.1 (List.takeWhile_prefix _)).symm
  have nR:=jD s k (k+m) (by omega) hml;rw[SL]at nR;obtain⟨b,dH,de,eJ⟩:=alK ((s.drop k).takeWhile (· != 10))
  have h10:(10:UInt8)∉b:=fun h=>by
   have h2:(10:UInt8)∈(s.drop k).takeWhile (· != 10):=by rw[de];simp[h]
   have:=List.all_eq_true.1 (List.all_takeWhile (p:=(· != 10)) (l:=s.drop k)) 10 h2;simp at this
  have htl:((s.drop k).takeWhile (· != 10)).length<=9223372036854775807:=by rw[hm];have:=HN.out;omega
  have TR:=hid (fun w=>pI ((s.drop k).takeWhile (· != 10)) htl w);have LD:=hid (fun w=>Dd ((s.drop k).takeWhile (· != 10)) htl w)
  have hte:ak ((s.drop k).takeWhile (· != 10))=[]<->ax ((s.drop k).takeWhile (· != 10))=[]:=by
   constructor
   ·intro h
    exact akA ((wT _).1 h)
   intro h;exact(wT _).2 (ru h)
  have mh:(s.drop k).length=s.length-k:=aoN;generalize (s.drop k).takeWhile (· != 10)=tw at*;obtain⟨q,hq⟩:=aj (min (k+m+1) s.length);rw[hq]at y1 y2;have rK:q<=n:=by have:=HN.out;omega
  have hqk:k<q:=by have:=HN.out;omega
  obtain⟨f,hf⟩:=aj (ax tw);have QG:=hid (show f=[]->ax (s.drop q)=u from fun h=>by rw[y1,x1 (by rw[hf];exact h)];exact hat.out)
  have k8:=hid (show f≠[]->sJ n (s.drop k0) (.returned (.tuple #[.string (tx tw),.int .i64 ((k:Int)+((m-f.length:Nat):Int)),.int .i64 q,.bool true]))from fun h=>by
   obtain⟨z1,z2,z3,z4⟩:=x2 (by rw[hf];exact h);have hns:=HN.out
   right
   refine⟨b,?_,dH,h10,?_,?_⟩
   ·rw[HU.out,<-hat.out];exact z1
   ·rw[HU.out,<-hat.out];unfold bJ;rw[hf]at z4 eJ
    refine⟨by omega,?_⟩;have hd1:=aoN (i:=k) (l:=s);have jJ:=aoN (i:=k0) (l:=s);omega
   rw[HU.out,<-hat.out,z2,hf,z3,<-adp de hf]
   have e1:bJ n (ax (s.drop k))=k+(m-f.length):=by unfold bJ;rw[hf,hm]at z4;omega
   have e2:n-(bE (s.drop k)).length=q:=by omega
   rw[e1,e2,Int.natCast_add])
  clear x1 x2 SL dH de eJ h10 mh y1 y2 htl;have hmn:m<=262144:=by have:=HN.out;omega
  have Li:(q:Int)=if(n:Int)<(k:Int)+(m:Int)+1 then(n:Int)else(k:Int)+(m:Int)+1:=by have:=HN.out;omega
  have HT:=hid hte
  by_cases hin:(10:UInt8)∈s.drop k
  ·have e8:=i2 hin
   rw[hm]at e8;have IB:=hid (fun w=>e8▸IB.out w);have z8:decide ((0:Int)<=(m:Int))=true:=by simp
   have Zj: ∀w,(anh 9 (.string (tx s)) (some (.int .i64 k)) (some (.int .i64 ((k:Int)+(m:Int)))) none).run prog w= .ok (.string (tx tw)) w:=nR;have mn: ∀ts ty w,(Builtin.min_ ts ty #[.int .i64 ((k:Int)+(m:Int)+1),.int .i64 n]).run prog w= .ok (.int .i64 q) w:=fun ts ty=>Za ts ty .i64 _ _ _ Li
   clear i1 i2 nR hno hin e8 Li hte
   by_cases gC:f=[]
   ·have HY:=hid (QG.out gC)
    have ht0:=HT.out.2 (by rw[hf];exact gC);rw[ht0]at TR;have TR:=hid (fun w=>(show aJ w (.string (tx []))=aJ w (.string ⟨#[]⟩)from rfl)▸TR.out w);have HF:=hid hf;clear hf gC ht0 HT
    go_wp2_with (first|(go_at_call 78;refine av (IB.out _) ?_)|fail)
    refine(TR.out _).mono ?_;rintro e w2 ⟨rfl,E2⟩;have kL:=hid (E.trans (E2.mono E.size));have d0:=(E2.cell (p:=⟨rb,0,none⟩) (by have:=E.size;simp;omega)).trans d0;clear E2;go_wp2_with fail
    go_step3
    refine⟨rfl,⟨kL.out,q,rK,by omega,rfl,HY⟩,?_⟩;simp[intOf];omega
   have k8:=hid (k8.out gC)
   obtain⟨t,ht⟩:=aj (ak tw);have ht0:t≠[]:=fun h=>gC (by rw[<-hf];exact HT.out.1 (by rw[ht];exact h))
   rw[ht]at TR;rw[hf,hm]at LD
   have zt:(tx t).toList.isEmpty=false:=by rw[bh];cases t with
    |nil=>exact absurd rfl ht0
    |cons a b=>rfl
   have hfm:(m-f.length:Nat)<=262144:=by omega
   clear hf gC HT ht ht0
   go_wp2_with (first|(go_at_call 78;refine av (IB.out _) ?_)|fail)
   refine(TR.out _).mono ?_;rintro e w2 ⟨rfl,E2⟩;have kL:=hid (E.trans (E2.mono E.size));have d0:=(E2.cell (p:=⟨rb,0,none⟩) (by have:=E.size;simp;omega)).trans d0;clear E2;have cA:=fun(d:Nat) (os:Array Obj)=>apX (LD.out (grow (redrawn w2 d) os))
   go_wp2_with fail;have d0:=cell_regrown d0;refine wp_region_quiet_below aN aN ?_
   repeat(go_big_quiet_step (exact cA _ _))
   refine wpQuiet_nil ?_;intro _ hw';obtain⟨⟨dq,cH⟩,hw''⟩:=hw';subst hw'';have qN:=below_regrown w2 dq cH;have EZ:=hid (kL.out.trans (qN.mono kL.out.size));generalize grow (redrawn w2 dq) cH=wq at*;clear d0 qN cA;go_wp2_with fail;simp only[apS];exact bodyPost_ret (by simp[results,results74,go_sem];rfl) rfl ⟨by rw[<-HN.out];exact k8.out,EZ.out⟩
  have e8:=i1 hin
  have ekm:=hno hin;have IB:=hid (fun w=>e8▸IB.out w);have Zj: ∀w,(anh 9 (.string (tx s)) (some (.int .i64 k)) (some (.int .i64 n)) none).run prog w= .ok (.string (tx tw)) w:=by have:=HN.out;rw[show((k+m:Nat):Int)=(n:Int) by omega]at nR;exact nR
  have mn: ∀ts ty w,(Builtin.min_ ts ty #[.int .i64 ((n:Int)+1),.int .i64 n]).run prog w= .ok (.int .i64 q) w:=fun ts ty=>Za ts ty .i64 _ _ _ (aI HN.out)
  clear i1 i2 nR hno hin e8 Li hte ekm
  by_cases gC:f=[]
  ·have HY:=hid (QG.out gC)
   have ht0:=HT.out.2 (by rw[hf];exact gC);rw[ht0]at TR;have TR:=hid (fun w=>(show aJ w (.string (tx []))=aJ w (.string ⟨#[]⟩)from rfl)▸TR.out w);have HF:=hid hf;clear hf gC ht0 HT
   go_wp2_with (first|(go_at_call 78;refine av (IB.out _) ?_)|fail)
   refine(TR.out _).mono ?_;rintro e w2 ⟨rfl,E2⟩;have kL:=hid (E.trans (E2.mono E.size));have d0:=(E2.cell (p:=⟨rb,0,none⟩) (by have:=E.size;simp;omega)).trans d0;clear E2;go_wp2_with fail
   go_step3
   refine⟨rfl,⟨kL.out,q,rK,by omega,rfl,HY⟩,?_⟩;simp[intOf];omega
  have k8:=hid (k8.out gC)
  obtain⟨t,ht⟩:=aj (ak tw);have ht0:t≠[]:=fun h=>gC (by rw[<-hf];exact HT.out.1 (by rw[ht];exact h))
  rw[ht]at TR;rw[hf,hm]at LD
  have zt:(tx t).toList.isEmpty=false:=by rw[bh];cases t with
   |nil=>exact absurd rfl ht0
   |cons a b=>rfl
  have hfm:(m-f.length:Nat)<=262144:=by omega
  clear hf gC HT ht ht0
  go_wp2_with (first|(go_at_call 78;refine av (IB.out _) ?_)|fail)
  refine(TR.out _).mono ?_;rintro e w2 ⟨rfl,E2⟩;have kL:=hid (E.trans (E2.mono E.size));have d0:=(E2.cell (p:=⟨rb,0,none⟩) (by have:=E.size;simp;omega)).trans d0;clear E2;have cA:=fun(d:Nat) (os:Array Obj)=>apX (LD.out (grow (redrawn w2 d) os))
  go_wp2_with fail;have d0:=cell_regrown d0;refine wp_region_quiet_below aN aN ?_
  repeat(go_big_quiet_step (exact cA _ _))
  refine wpQuiet_nil ?_;intro _ hw';obtain⟨⟨dq,cH⟩,hw''⟩:=hw';subst hw'';have qN:=below_regrown w2 dq cH;have EZ:=hid (kL.out.trans (qN.mono kL.out.size));generalize grow (redrawn w2 dq) cH=wq at*;clear d0 qN cA;go_wp2_with fail;simp only[apS];exact bodyPost_ret (by simp[results,results74,go_sem];rfl) rfl ⟨by rw[<-HN.out];exact k8.out,EZ.out⟩
 obtain rfl:k=n:=by omega
 have zk:decide ((k:Int)<=(k:Int))=true:=by simp
 have k8:=hid (show sJ k (s.drop k0) (.returned (.tuple #[.string (tx []),.int .i64 k,.int .i64 k,.bool false]))from .inl ⟨by rw[HU.out,<-hat.out,HN.out,List.drop_length];rfl,rfl⟩);have gI:=hid HN.out.symm;clear hat hks hkn;go_wp2_with fail
 go_big_region
 all_goals go_wp2_with fail
 all_goals simp only[apS]
 all_goals exact bodyPost_ret (by simp[results,results74,go_sem];rfl) rfl ⟨by rw[gI.out];exact k8.out,jt HE.out⟩
theorem Dc(p:Value)(er k:Int)(w:World):Calls prog 76 #[p,.int .i64 er,.int .i64 k] w (fun e w'=>e= .panicked [{ v:=.iface 65 (.agg #[.int .i64 er,.int .i64 k]),recovered:=false }]/\Below w.heap.size w w'):=by
 go_in;go_wp2;exact⟨rfl,rfl,bC⟩
theorem Yo(l:Tx)(hl:l.length<=262144)(w:World):Calls prog 75 #[.string (tx l)] w fun e w'=> ∃a,e= .returned (.slice a (cG [] l).length (cG [] l).length)/\bS w' a (cG [] l)/\w.heap.size<=bk a/\Below w.heap.size w w':=by
 have hfl:=ac4 l
 have F: ∀w,Calls prog 147 #[.string (tx l),.func (.func 148) #[] #[]] w fun e w'=> ∃a,e= .returned (.slice a (cG [] l).length (cG [] l).length)/\bS w' a (cG [] l)/\w.heap.size<=bk a/\Below w.heap.size w w':=fun w=>by
  refine(Any.strings_FieldsFunc_grows Tryz.ae5 148 #[] (enters_of func148 aN rfl) mU (tx l) w (by rw[aM];omega) (fun W x hx _=>ajp x hx W) aN aN).mono ?_;rintro e w' ⟨A,rfl,hA,hO,hB⟩;rw[acI]at hO⊢;simp only[List.length_map]at hO⊢;refine⟨_,rfl,⟨?_,by omega⟩,(Own.lt (show Own w' w.heap.size _ 1 (an7 ⟨A,0,none⟩) _ _ _ from hO) (by simp)).1,hB⟩;have:=Own.row (show Own w' w.heap.size _ 1 (an7 ⟨A,0,none⟩) _ _ _ from hO);rw[List.map_map]at this;exact this
 have F:=hid F;obtain⟨L,hL⟩:=aj (cG [] l);rw[hL]at F⊢;clear hfl hL hl;go_in;go_wp2_with fail;refine(F.out _).mono ?_;rintro e w1 ⟨a,rfl,T,hab,E⟩;go_wp2;go_ret;exact⟨a,rfl,T,hab,E⟩
def Qt(p:EP (Int × Tx × Tx))(w1 w:World)(s:Tx)(t:aG)(e:Ending)(w':World):Prop:=Below w1.heap.size w1 w'/\((∃er k,p= .error (er,k)/\e=pW er k)\/(∃a n r1 k',p= .ok (a,n,r1)/\s.drop k'=r1/\e= .returned (.tuple #[])/\St w w' w1.heap.size/\cM w1 w' s k' { t with af:=a,name:=n }))
theorem Ui{N:Nat}{r:Tx}(h:qJ (aK (ax r))=none):fP N r= .error (140,bJ N (ax r)):=by
 unfold fP;dsimp only;rw[h]
theorem Ug{N:Nat}{r x y:Tx}(h:qJ (aK (ax r))=some (x,y))(h2:vz x=none):fP N r= .error (5,bJ N (ax r)):=by
 unfold fP;dsimp only;rw[h];dsimp only;rw[h2]
theorem Uj{N:Nat}{r x y:Tx}{a:Int}(h:qJ (aK (ax r))=some (x,y))(h2:vz x=some a):fP N r= .ok (a,y,bE (ax r)):=by
 unfold fP;dsimp only;rw[h];dsimp only;rw[h2]
theorem yK(N:Nat):bJ N []=N:=rfl
theorem Bi{s u:Tx}{k:Nat}(h:u <:+ s.drop k):s.drop (s.length-u.length)=u:=by
 have h2:u <:+ s:=h.trans (List.drop_suffix k s);exact(List.suffix_iff_eq_drop.1 h2).symm
theorem kX(r:Tx):ax r <:+ r:=apr _
theorem yX(r:Tx):bE r <:+ r:=(List.drop_suffix 1 _).trans (apr _)
theorem ajg{w1 w:World}{s:Tx}{k:Nat}{t:aG}(R:cM w1 w s k t):Calls prog 27 #[.pointer (some ⟨w1.heap.size,0,none⟩)] w (Qt (fP s.length (s.drop k)) w1 w s t):=by
 obtain⟨c0,c1⟩:=R.bx.mB;have hl:=R.sl;have PK:=hid (De s w1.heap.size k R.le R.sl w c0 c1);have FL:=hid (fun p er k w=>Dc p er k w);have HR:=hid R;obtain⟨u,hu⟩:=aj (ax (s.drop k));have P1:=hid (fun h=>Ui (N:=s.length) (r:=s.drop k) h);have P2:=hid (fun x y h h2=>Ug (N:=s.length) (r:=s.drop k) (x:=x) (y:=y) h h2);have P3:=hid (fun x y a h h2=>Uj (N:=s.length) (r:=s.drop k) (x:=x) (y:=y) (a:=a) h h2);rw[hu]at P1 P2 P3;generalize fP s.length (s.drop k)=hp at*;clear c0 c1;go_in;go_wp2_with fail;refine PK.out.mono ?_;rintro e w2 ⟨hv,E2⟩;unfold sJ at hv;rw[hu]at hv;rcases hv with⟨h0,rfl⟩|⟨b,h0,hb,h10,kA,rfl⟩
 ·have WD:=hid (Yo [] (by simp))
  have P1:=hid (P1.out (by rw[h0];rfl));rw[h0,yK]at P1;have E2:=hid E2;clear hu h0;go_wp2_with fail;refine(WD.out _).mono ?_;rintro e w3 ⟨a,rfl,T,hab,E3⟩;have E:=hid (aB E2.out E3);simp only[show(cG [] []).length=0 from rfl];clear T E3;go_wp2_with fail;refine(FL.out _ _ _ _).mono ?_;rintro e w4 ⟨rfl,E4⟩;have E:=hid (aB E.out E4);clear E4;go_wp2;exact⟨rfl,(HR.out.below E.out).bu,.inl ⟨_,_,P1.out,rfl⟩⟩
 obtain⟨c,hc⟩: ∃c,u.head?=some c:=by
  cases u with
  |nil=>exact absurd rfl h0
  |cons c r=>exact⟨c,rfl⟩
 have hcb:aq c=false:=je (l:=s.drop k) (p:=aq) (by rw[show(s.drop k).dropWhile aq=u from hu];exact hc);obtain⟨q1,q2,q3⟩:=Cn hc hcb hb;have dN:u.length<=s.length:=by rw[<-hu];have:=(kX (s.drop k)).length_le;have:=aoN (i:=k) (l:=s);omega
 have hin:b.length+u.length<=s.length:=by unfold bJ at kA;omega
 have hlen:(b++u.takeWhile (· != 10)).length<=262144:=by have:=pM (· != 10) u;rw[aoW];omega
 have WD:=hid (Yo (b++u.takeWhile (· != 10)) hlen);have T2:=alN q2;rw[<-q1,ac6,q1]at T2;have qq:s.drop (s.length-(bE u).length)=bE u:=Bi (k:=k) ((yX u).trans (by rw[<-hu];exact kX _));have hle:s.length-(bE u).length<=s.length:=by omega
 generalize b++u.takeWhile (· != 10)=ln at*;obtain⟨L,hL⟩:=aj (cG [] ln);rw[hL]at WD T2;have E2:=hid E2;have HT:=hid T2;have xu:=hid qq;clear hu hc q1 q2 q3 hL T2 qq dN hin hlen kA;go_wp2_with fail;refine(WD.out _).mono ?_;rintro e w3 ⟨a,rfl,T,hab,E3⟩;have E:=hid (aB E2.out E3);clear E3
 by_cases h2:L.length=2
 ·match L,h2 with
  |[x,y],_=>
  have P2:=hid (fun h=>P2.out x y HT.out h);have P3:=hid (fun a h=>P3.out x y a HT.out h);have i0: ∀w',(Instr.indexAt 42 (.slice a 2 2) (.int .i64 0)).run prog w'=_:=T.idx 0 (by simp) 2;have i1: ∀w',(Instr.indexAt 42 (.slice a 2 2) (.int .i64 1)).run prog w'=_:=T.idx 1 (by simp) 2;have x0:w3.cell? ⟨bk a,fo a+0,none⟩=some (.string (tx x)):=T.cell 0 (by simp);have x1:w3.cell? ⟨bk a,fo a+1,none⟩=some (.string (tx y)):=T.cell 1 (by simp);simp only[ano]at i0 x0;have R3:=HR.out.below E.out;have hf:=fun j=>R3.dG j
  have uA:=hf 1;have mH:=hf 2;have hf3:=hf 3;obtain⟨-, q1,q2,q3⟩:=R3.bx.AV;have hrb:=R3.lt;have hne:bk a≠w1.heap.size:=by have:=E2.out.size;have:=HR.out.lt;omega
  have vU:=hne.symm
  by_cases hx1:x=[88,56,54]
  ·subst hx1
   have zx:((tx [88,56,54]).toList==[88,56,54])=true:=by rw[bh];rfl
   have P3:=hid (P3.out 1 rfl);generalize tx [88,56,54]=ux at*;have R4:=(R3.put 2 (.int .i64 1) (t':={ t with af:=1 }) rfl R3.le).1;have R5:=(R4.put 3 (.string (tx y)) (t':={ t with af:=1,name:=y }) rfl R4.le).1;have R6:=(R5.put 1 (.int .i64 (s.length-(bE u).length:Nat)) (k':=s.length-(bE u).length) (t':={ t with af:=1,name:=y }) rfl hle).1;have ST:=((R3.put 2 (.int .i64 1) (t':={ t with af:=1 }) rfl R3.le).2.trans (R4.put 3 (.string (tx y)) (t':={ t with af:=1,name:=y }) rfl R4.le).2).trans (R5.put 1 (.int .i64 (s.length-(bE u).length:Nat)) (k':=s.length-(bE u).length) (t':={ t with af:=1,name:=y }) rfl hle).2;replace ST:=hid ((aX E.out).trans ST);replace R6:=hid R6;clear R3 R4 R5 T P1 P2;go_wp2
   go_end0
   exact⟨R6.out.bu,.inr ⟨_,_,_,_,P3.out,xu.out,rfl,ST.out,R6.out⟩⟩
  have zx:=cY _ _ hx1
  by_cases hx2:x=[82,73,83,67,86]
  ·subst hx2
   have wZ:((tx [82,73,83,67,86]).toList==[82,73,83,67,86])=true:=by rw[bh];rfl
   have P3:=hid (P3.out 2 rfl);generalize tx [82,73,83,67,86]=ux at*;have R4:=(R3.put 2 (.int .i64 2) (t':={ t with af:=2 }) rfl R3.le).1;have R5:=(R4.put 3 (.string (tx y)) (t':={ t with af:=2,name:=y }) rfl R4.le).1;have R6:=(R5.put 1 (.int .i64 (s.length-(bE u).length:Nat)) (k':=s.length-(bE u).length) (t':={ t with af:=2,name:=y }) rfl hle).1;have ST:=((R3.put 2 (.int .i64 2) (t':={ t with af:=2 }) rfl R3.le).2.trans (R4.put 3 (.string (tx y)) (t':={ t with af:=2,name:=y }) rfl R4.le).2).trans (R5.put 1 (.int .i64 (s.length-(bE u).length:Nat)) (k':=s.length-(bE u).length) (t':={ t with af:=2,name:=y }) rfl hle).2;replace ST:=hid ((aX E.out).trans ST);replace R6:=hid R6;clear R3 R4 R5 T P1 P2 hx1;go_wp2
   go_end0
   exact⟨R6.out.bu,.inr ⟨_,_,_,_,P3.out,xu.out,rfl,ST.out,R6.out⟩⟩
  have wZ:=cY _ _ hx2
  have P2:=hid (P2.out (by unfold vz;rw[if_neg hx1,if_neg hx2]));clear R3 hx1 hx2 T P1 P3;go_wp2_with fail;refine(FL.out _ _ _ _).mono ?_;rintro e w4 ⟨rfl,E4⟩;have E:=hid (aB E.out E4);clear E4;go_wp2;exact⟨rfl,(HR.out.below E.out).bu,.inl ⟨_,_,P2.out,rfl⟩⟩
 have P1:=hid (P1.out (by
  rw[HT.out]
  match L,h2 with
  |[],_=>rfl
  |[_],_=>rfl
  |[_,_],h2=>exact absurd rfl h2
  |_::_::_::_,_=>rfl))
 have z2:((L.length:Int) != 2)=true:=ah;clear T h2 HT;generalize L.length=m at*;go_wp2_with fail;refine(FL.out _ _ _ _).mono ?_;rintro e w4 ⟨rfl,E4⟩;have E:=hid (aB E.out E4);clear E4;go_wp2;exact⟨rfl,(HR.out.below E.out).bu,.inl ⟨_,_,P1.out,rfl⟩⟩
def Qr(p:EP (Tx × Tx))(w1 w:World)(s:Tx)(t:aG)(e:Ending)(w':World):Prop:=Below w1.heap.size w1 w'/\((∃er k,p= .error (er,k)/\e=pW er k)\/(∃c r1 k',p= .ok (c,r1)/\s.drop k'=r1/\e= .returned (.tuple #[])/\St w w' w1.heap.size/\cM w1 w' s k' { t with bD:=c }))
theorem Sy{N:Nat}{r:Tx}(h:(aK (ax r)).head?≠some 34):eH N r= .ok ([],r):=by
 unfold eH;dsimp only;rw[if_pos h]
theorem Sx{N:Nat}{r:Tx}(h0:(aK (ax r)).head?=some 34)(h:(aK (ax r)).length<2\/(aK (ax r)).getLast?≠some 34\/(aK (ax r)).count 34≠2):eH N r= .error (140,bJ N (ax r)):=by
 unfold eH;dsimp only;rw[if_neg (by rw[h0];simp),if_pos h]
theorem Sz{N:Nat}{r:Tx}(h0:(aK (ax r)).head?=some 34)(h: ¬((aK (ax r)).length<2\/(aK (ax r)).getLast?≠some 34\/(aK (ax r)).count 34≠2)):eH N r= .ok (ak ((aK (ax r)).drop 1).dropLast,bE (ax r)):=by
 unfold eH;dsimp only;rw[if_neg (by rw[h0];simp),if_neg h]
theorem Ws{t:aG}(h:t.bD=[]):{ t with bD:=[] }=t:=by
 obtain⟨af,name,bD,ia,ic,init,ca,cc,code,q,node⟩:=t;simp only at h;subst h;rfl
theorem ajf{w1 w:World}{s:Tx}{k:Nat}{t:aG}(R:cM w1 w s k t)(uy:t.bD=[]):Calls prog 28 #[.pointer (some ⟨w1.heap.size,0,none⟩)] w (Qr (eH s.length (s.drop k)) w1 w s t):=by
 obtain⟨c0,c1⟩:=R.bx.mB;have hl:=R.sl;have PK:=hid (De s w1.heap.size k R.le R.sl w c0 c1);have FL:=hid (fun p er k w=>Dc p er k w);have HR:=hid R;have Po:=hid (Ws uy);obtain⟨u,hu⟩:=aj (ax (s.drop k));have P1:=hid (fun h=>Sy (N:=s.length) (r:=s.drop k) h);have P2:=hid (fun h0 h=>Sx (N:=s.length) (r:=s.drop k) h0 h);have P3:=hid (fun h0 h=>Sz (N:=s.length) (r:=s.drop k) h0 h);rw[hu]at P1 P2 P3;generalize eH s.length (s.drop k)=hp at*;clear c0 c1 uy;go_in;go_wp2_with fail;refine PK.out.mono ?_;rintro e w2 ⟨hv,E2⟩;unfold sJ at hv;rw[hu]at hv;rcases hv with⟨h0,rfl⟩|⟨b,h0,hb,h10,kA,rfl⟩
 ·have TR:=hid (fun w=>pI [] (by simp) w)
  have P1:=hid (P1.out (by rw[h0];decide));have E2:=hid E2;clear hu h0;go_wp2_with fail;refine(TR.out _).mono ?_;rintro e w3 ⟨rfl,E3⟩;have E:=hid (aB E2.out E3);clear E3;go_wp2;exact bodyPost_ret (by simp[results,results28,go_sem]) rfl ⟨(HR.out.below E.out).bu,.inr ⟨_,_,k,P1.out,rfl,rfl,aX E.out,by rw[Po.out];exact HR.out.below E.out⟩⟩
 obtain⟨c,hc⟩: ∃c,u.head?=some c:=by
  cases u with
  |nil=>exact absurd rfl h0
  |cons c r=>exact⟨c,rfl⟩
 have hcb:aq c=false:=je (l:=s.drop k) (p:=aq) (by rw[show(s.drop k).dropWhile aq=u from hu];exact hc);obtain⟨q1,q2,q3⟩:=Cn hc hcb hb;have dN:u.length<=s.length:=by rw[<-hu];have:=(kX (s.drop k)).length_le;have:=aoN (i:=k) (l:=s);omega
 have hin:b.length+u.length<=s.length:=by unfold bJ at kA;omega
 have hlen:(b++u.takeWhile (· != 10)).length<=262144:=by have:=pM (· != 10) u;rw[aoW];omega
 have TR:=hid (fun w=>pI (b++u.takeWhile (· != 10)) (by omega) w);have dK:=jS (b++u.takeWhile (· != 10));rw[q1]at TR dK;have qq:s.drop (s.length-(bE u).length)=bE u:=Bi (k:=k) ((yX u).trans (by rw[<-hu];exact kX _));have hle:s.length-(bE u).length<=s.length:=by omega
 have rH:(aK u).length<=262144:=by omega
 generalize b++u.takeWhile (· != 10)=ln at*;generalize aK u=l at*;have E2:=hid E2;have xu:=hid qq;clear hu hc q1 q2 qq dN hin hlen kA dK;go_wp2_with fail;refine(TR.out _).mono ?_;rintro e w3 ⟨rfl,E3⟩;have E:=hid (aB E2.out E3);clear E3
 obtain⟨r0,rfl⟩: ∃r0,l=c::r0:=by
  cases l with
  |nil=>cases q3
  |cons d r0=>exact⟨r0,by rw[show d=c from Option.some.inj q3]⟩
 have i0:=kJ (c::r0) c rfl
 by_cases FG:c=34
 ·subst FG
  have y0:(((34:UInt8).toNat:Int) != 34)=false:=by decide
  have hsz:=aM (34::r0);obtain⟨n,hn⟩:=aj ((tx (34::r0)).size);have fk:n=r0.length+1:=by rw[<-hn,hsz];simp
  have jK:n<=262144:=by have:(34::r0).length=r0.length+1:=rfl;omega
  have CN:=hid (fun w=>acq (34::r0) 34 w);rcases List.eq_nil_or_concat r0 with h1|⟨m,z,h1⟩
  ·have z1:decide ((n:Int)<2)=true:=by rw[fk,h1];decide
   have P2:=hid (P2.out rfl (.inl (by rw[h1];decide)));clear hsz fk P1 P3 h1;go_wp2_with fail;refine(FL.out _ _ _ _).mono ?_;rintro e w4 ⟨rfl,E4⟩;have E:=hid (aB E.out E4);clear E4;go_wp2;exact⟨rfl,(HR.out.below E.out).bu,.inl ⟨_,_,P2.out,rfl⟩⟩
  rw[List.concat_eq_append]at h1
  have z1:decide ((n:Int)<2)=false:=by rw[fk,h1];simp;omega
  have hm2:n=m.length+2:=by rw[fk,h1];simp
  have gl:(34::r0).getLast?=some z:=by rw[h1];exact Gj _ _ _
  have i1:=bB (34::r0) (m.length+1) z (by rw[h1];simp);rw[show((m.length+1:Nat):Int)=(n:Int)-1 by omega]at i1
  by_cases hz:z=34
  ·subst hz
   have y1:(((34:UInt8).toNat:Int) != 34)=false:=by decide
   obtain⟨cn,oh⟩:=aj ((34::r0).count 34);rw[oh]at CN
   by_cases sZ:cn=2
   ·subst sZ
    have P3:=hid (P3.out rfl (by
     rintro(h|h|h)
     ·rw[h1]at h;simp only[List.length_cons,aoW,List.length_nil]at h;omega
     ·exact h gl
     exact h oh))
    have ed:(List.drop 1 (34::r0)).dropLast=m:=by rw[h1];simp
    rw[ed]at P3;have sl:=jD (34::r0) 1 (m.length+1) (by omega) (by rw[h1];simp);have e2:((34::r0).take (m.length+1)).drop 1=m:=by rw[h1];simp
    rw[e2,show((m.length+1:Nat):Int)=(n:Int)-1 by omega,show((1:Nat):Int)=1 by rfl]at sl;have TM:=hid (fun w=>pI m (by omega) w);have R3:=HR.out.below E.out;generalize ak m=tm at*;have R5:=R3.put 4 (.string (tx tm)) (t':={ t with bD:=tm }) rfl R3.le;clear hsz fk hm2 P1 P2 h1 ed e2 gl oh R3 R5
    go_wp2_with (first|(go_at_call 77;refine av (CN.out _) ?_)|fail)
    refine(TM.out _).mono ?_;rintro e w4 ⟨rfl,E4⟩;have E:=hid (aB E.out E4);clear E4;have R3:=HR.out.below E.out;obtain⟨-, q1,-, -, q4⟩:=R3.bx.fc;have uA:=R3.dG 1;have Um:=R3.dG 4;have hrb:=R3.lt;have R5:=R3.put 4 (.string (tx tm)) (t':={ t with bD:=tm }) rfl R3.le;have R6:=R5.1.put 1 (.int .i64 (s.length-(bE u).length:Nat)) (k':=s.length-(bE u).length) (t':={ t with bD:=tm }) rfl hle;have ST:=hid ((aX E.out).trans (R5.2.trans R6.2));replace R6:=hid R6.1;clear R3 R5;go_wp2
    go_end0
    exact⟨R6.out.bu,.inr ⟨_,_,_,P3.out,xu.out,rfl,ST.out,R6.out⟩⟩
   have P2:=hid (P2.out rfl (.inr (.inr (by rw[oh];exact sZ))))
   have z2:((cn:Int) != 2)=true:=ah;clear hsz fk hm2 P1 P3 h1 gl oh sZ
   go_wp2_with (first|(go_at_call 77;refine av (CN.out _) ?_)|fail)
   refine(FL.out _ _ _ _).mono ?_;rintro e w4 ⟨rfl,E4⟩;have E:=hid (aB E.out E4);clear E4;go_wp2;exact⟨rfl,(HR.out.below E.out).bu,.inl ⟨_,_,P2.out,rfl⟩⟩
  have P2:=hid (P2.out rfl (.inr (.inl (by rw[gl];simpa using hz))))
  have y1:((z.toNat:Int) != 34)=true:=mZ z 34 hz;clear hsz fk hm2 P1 P3 h1 gl hz;go_wp2_with fail;refine(FL.out _ _ _ _).mono ?_;rintro e w4 ⟨rfl,E4⟩;have E:=hid (aB E.out E4);clear E4;go_wp2;exact⟨rfl,(HR.out.below E.out).bu,.inl ⟨_,_,P2.out,rfl⟩⟩
 have P1:=hid (P1.out (by simpa using FG))
 have y0:((c.toNat:Int) != 34)=true:=mZ c 34 FG;clear P2 P3 FG;go_wp2;exact bodyPost_ret (by simp[results,results28,go_sem]) rfl ⟨(HR.out.below E.out).bu,.inr ⟨_,_,k,P1.out,rfl,rfl,aX E.out,by rw[Po.out];exact HR.out.below E.out⟩⟩
theorem ajn{w:World}{B rb:Nat}{af:Int}{s:Tx}{a:Option Addr}{c:Nat}{L:List Tok}{k:Nat}(R:cU w B rb af s a c L k)(hsh: ∀t∈L,t.1.length<=s.length)(g:Gl w):
 Calls prog 350 #[.pointer (some ⟨rb,0,none⟩)] w (gu w B rb af s a c L (eY af (L.drop k)) VT):=by
 by_cases gB:au (L.drop k)=[91]
 ·exact acg R hsh gB
 cases hn:qz (au (L.drop k))with
 |true=>exact ach R hsh g gB hn
 |false=>exact aci R hsh gB hn
theorem GR{k:Int}{sign:Tx}{one:List Tok->PR Nd}{n:Nat}{acc:List Nd}{l:List Tok}(h:au l=sign):jj k sign one (n+1) acc l=match one l.tail with
 | .error e=>.error e
 | .ok (x,r)=>jj k sign one n (acc++[x]) r:=by rw[jj,if_pos h];cases one l.tail<;>rfl
theorem tJ{k:Int}{sign:Tx}{one:List Tok->PR Nd}{n:Nat}{acc:List Nd}{l:List Tok}(h:au l≠sign):jj k sign one n acc l= .ok (Cx k acc,l):=by
 cases n with
 |zero=>rfl
 |succ n=>rw[jj,if_neg h]
theorem ake{k:Int}{sign:Tx}{one:List Tok->PR Nd}{l e:List Tok}(h:one l= .error e):iw k sign one l= .error e:=by unfold iw;rw[h]
theorem akf{k:Int}{sign:Tx}{one:List Tok->PR Nd}{l r:List Tok}{x:Nd}(h:one l= .ok (x,r)):iw k sign one l=jj k sign one r.length [x] r:=by unfold iw;rw[h]
theorem MQ{k:Int}{l:List Nd}(h:l.length≠1):Cx k l=uN k l:=by
 match l with
 |[]=>rfl
 |[x]=>exact absurd rfl h
 |x::y::r=>rfl
structure dA(w0 w:World)(rb:Nat)(af:Int)(s:Tx)(a:Option Addr)(c:Nat)(L:List Tok)(k:Nat):Prop where
 rd:cU w w0.heap.size rb af s a c L k
 g:Gl w0
 bu:Below w0.heap.size w0 w
 sh: ∀t∈L,t.1.length<=s.length
section
variable {w0 w w1:World} {rb:Nat} {af:Int} {s:Tx} {a:Option Addr} {c:Nat} {L:List Tok} {k k1:Nat}
theorem dA.gl(h:dA w0 w rb af s a c L k):Gl w:=h.g.below h.bu
theorem dA.lo(h:dA w0 w rb af s a c L k):w0.heap.size<=rb/\rb<w.heap.size:=by
 have:=Own.lt h.rd.own (by simp);simpa using this
theorem dA.below(h:dA w0 w rb af s a c L k)(hb:Below w.heap.size w w1):dA w0 w1 rb af s a c L k:=
 ⟨h.rd.below hb,h.g,h.bu.trans (hb.mono h.bu.size),h.sh⟩
theorem dA.st(h:dA w0 w rb af s a c L k)(hs:St w w1 rb)(hr:cU w1 w0.heap.size rb af s a c L k1):dA w0 w1 rb af s a c L k1:=
 ⟨hr,h.g,h.bu.grown hs.grown h.bu.size (fun r hr=>by simp at hr;subst hr;exact h.lo.1),h.sh⟩
theorem dA.next(h:dA w0 w rb af s a c L k)(hk:k<L.length):dA w0 (w.setCell ⟨rb,3,none⟩ (.int .i64 ((k:Int)+1))) rb af s a c L (k+1):=by
 obtain⟨R2,S2⟩:=h.rd.next hk;exact h.st S2 R2
end
theorem To{w w':World}{b:Nat}(hg:w.grownBy w' (an7 b)):Step w w' (an7 ⟨b,0,none⟩) (an7 ⟨b,0,none⟩):=⟨hg,.inl rfl⟩
theorem dA.gb{w0 w w1:World}{rb b:Nat}{af:Int}{s:Tx}{a:Option Addr}{c:Nat}{L:List Tok}{k:Nat}(h:dA w0 w rb af s a c L k)(hg:w.grownBy w1 (an7 b))(hb:b≠rb)(ha:L≠[]->bk a≠b)(hw:w0.heap.size<=b):dA w0 w1 rb af s a c L k:=
 ⟨⟨Own.kept h.rd.own hg (.inr (by simp;exact fun e=>hb e.symm)),bK.step kr (by omega) h.rd.toks (To hg) ha,h.rd.ne,h.rd.le,h.rd.sm,h.rd.sl⟩,h.g,h.bu.grown hg h.bu.size (fun r hr=>by simp at hr;omega),h.sh⟩
theorem ur{w w':World}{b:Nat}(h:w.grownBy w' (an7 b))(j:Nat)(v:Value):w.grownBy (w'.setCell ⟨b,j,none⟩ v) (an7 b):=
 ⟨h.os,h.tape,h.output,by simpa using h.size,fun k hk hne=>by rw[Below.heap_setCell _ _ _ _ (by simp;exact fun e=>hne (by rw[e]))];exact h.block k hk hne⟩
theorem uu(w:World)(b:Nat):w.grownBy w (an7 b):=⟨rfl,rfl,rfl,anb _,fun k hk hne=>rfl⟩
theorem VN.fin{w0 w w1 w2:World}{rb:Nat}{af:Int}{s:Tx}{a:Option Addr}{c:Nat}{L:List Tok}{k:Nat}{o:Obj}{pp:PR Nd}{e:Ending}(hG:dA w0 w1 rb af s a c L k)(hS:St (w.alloc o) w1 rb)(hg:w1.grownBy w2 (an7 w.heap.size))(hrb:rb<w.heap.size)(hT:L≠[]->bk a<w.heap.size)(y:Nd)(hN:aZ w1 (w.heap.size+1) y)(hn:(dL y).Nodup)(hp:pp= .ok (bG y,L.drop k))(he:e= .returned (vN y)):gu w w0.heap.size rb af s a c L pp (VN w.heap.size) e w2:=by
 have h0:=hG.lo.1;have h1:=hG.gb hg (by omega) (fun h=>by have:=hT h;omega) (by omega);have hs:=(St.new (St.refl w rb) o).trans hS;refine⟨⟨⟨hg.os.trans hs.grown.os,hg.tape.trans hs.grown.tape,hg.output.trans hs.grown.output,Nat.le_trans hs.grown.size hg.size,fun j hj hne=>?_⟩,.inl rfl⟩,.inr ⟨_,k,hp,⟨y,rfl,he,?_,hn⟩,h1.rd⟩⟩
 ·rw[hg.block j (anW hj hs.grown.size) ah]
  exact hs.grown.block j hj hne
 refine(hN.mono (B':=w.heap.size) (by omega)).kept hg fun b hb e=>?_
 have:=(hN.lt b hb).1;simp at e;omega
def sI(F:Nat)(w0:World)(rb:Nat)(af:Int)(s:Tx)(a:Option Addr)(c:Nat)(L:List Tok)(m:Nat)(one:List Tok->PR Nd):Prop:=
 ∀(w:World) (k:Nat),dA w0 w rb af s a c L k->(L.drop k).length<=m->Calls prog F #[.pointer (some ⟨rb,0,none⟩)] w (gu w w0.heap.size rb af s a c L (one (L.drop k)) (VN w.heap.size))
abbrev dJ:Obj:=.cells #[.int .i64 0,.int .i64 0,.int .i64 0,.string ⟨#[]⟩,.int .i64 0,.slice none 0 0] 28
theorem akJ{w w1 w2:World}{rb:Nat}{a a':Option Addr}{c c':Nat}(h:St w w1 rb)(hg:jF w1 w2 a c a' c')(ha:a≠none)(hw:w.heap.size<=bk a):St w w2 rb:=by
 refine⟨⟨?_,?_,?_,?_,fun k hk hne=>?_⟩,.inl rfl⟩
 all_goals have h1:=h.grown
 all_goals have h2:=hg.step.grown
 ·exact h2.os.trans h1.os
 ·exact h2.tape.trans h1.tape
 ·exact h2.output.trans h1.output
 ·exact Nat.le_trans h1.size h2.size
 rw[h2.block k (anW hk h1.size) ?_,h1.block k hk hne]
 cases a with
 |none=>exact absurd rfl ha
 |some p=>have hw':w.heap.size<=p.block:=hw;simp;omega
theorem acd{F:Nat}(hF:F∈[300,332]){w0 w:World}{rb:Nat}{af:Int}{s:Tx}{a:Option Addr}{c:Nat}{L:List Tok}{k:Nat}{m:Nat}{one:List Tok->PR Nd}(R:dA w0 w rb af s a c L k)(kd:Int)(sign:Tx)(hm:(L.drop k).length<=m)
 (ONE:sI F w0 rb af s a c L m one) (er:List Tok) (hone:one (L.drop k)= .error er):
 Calls prog 299 #[.pointer (some ⟨rb,0,none⟩),.int .i64 kd,.string (tx sign),.func (.func F) #[.pointer (some ⟨rb,0,none⟩)] #[]] w (gu w w0.heap.size rb af s a c L (iw kd sign one (L.drop k)) (VN w.heap.size)):=by
 simp only[anE,aoa,or_false]at hF;rcases hF with rfl|rfl
 all_goals
  rw[ake hone];have O:=ONE _ k (R.below (al w dJ)) hm;rw[hone]at O;have O:=hid O;clear hone ONE R;go_in;go_wp2_with fail;refine O.out.mono ?_;rintro e w1 h;obtain⟨rfl,S⟩:=h.err rfl;unfold fG;go_wp2;exact⟨rfl,(St.new (St.refl w rb) dJ).trans S,.inl ⟨_,rfl,rfl⟩⟩
theorem Sh{F:Nat}(hF:F∈[300,332]){w0 w:World}{rb:Nat}{af:Int}{s:Tx}{a:Option Addr}{c:Nat}{L:List Tok}{k:Nat}{m:Nat}{one:List Tok->PR Nd}(R:dA w0 w rb af s a c L k)(kd:Int)(sign:Tx)(hs:sign≠[])(hm:(L.drop k).length<=m)
 (ONE:sI F w0 rb af s a c L m one) (H: ∀l x r,l.length<=m->one l= .ok (x,r)->r.length<l.length):
 Calls prog 299 #[.pointer (some ⟨rb,0,none⟩),.int .i64 kd,.string (tx sign),.func (.func F) #[.pointer (some ⟨rb,0,none⟩)] #[]] w (gu w w0.heap.size rb af s a c L (iw kd sign one (L.drop k)) (VN w.heap.size)):=by
 simp only[anE,aoa,or_false]at hF;rcases hF with rfl|rfl
 all_goals
  cases hone:one (L.drop k)with
  |error er=>exact acd (by decide) R kd sign hm ONE er hone
  | ok p=>
    obtain⟨x,r⟩:=p;have hr:=H _ _ _ hm hone;have O:=ONE _ k (R.below (al w dJ)) hm;rw[hone]at O;have O:=hid O;rw[akf hone];have Ad:=hid ONE;have HH:=hid H;have HG:=hid (R.below (al w dJ));have hrb:=R.lo.2;have BU:=R.lo.1;have HT:=hid (show L≠[]->bk a<w.heap.size from fun h=>R.rd.toks.lt kr (by omega) h);have hL:L.length<=262144:=R.rd.sm;have hdl:r.length<m:=by omega
    obtain⟨pp,eC⟩:=aj (jj kd sign one r.length [x] r);rw[eC];have iA:=hid eC;have HS:=hid hs;have PK:=hid (fun(w:World) (k':Nat) (R:cU w w0.heap.size rb af s a c L k')=>rS R);have hrL:r.length<L.length:=by have h1:(L.drop k).length=L.length-k:=aoN;omega
    clear hone ONE R H hs hm hr eC;go_in;go_wp2_with fail;refine O.out.mono ?_;rintro e w1 h;obtain⟨k1,rfl,⟨y,hy,rfl,bH,dW⟩,R1,S1⟩:=h.cX rfl;have N1:=hid (show fM (w1.alloc (bN y)) (w.heap.size+1) (an7 ⟨w1.heap.size,0,none⟩) 1 [y] by have h0:=fM.one bH dW S1.grown.size;simpa using h0);have G1:=hid ((HG.out.st S1 R1).below (al w1 (bN y)));have S1:=hid (St.new S1 (bN y));have HY:=hid (show eU [y]=[x] by rw[vA,pY,hy]);clear h bH dW R1;go_wp2
    go_loopw [9] (fun v wr=> ∃(k2:Nat) (a2:Option Addr) (c2 n2:Nat) (l2:List Nd),v= .slice a2 l2.length c2/\Hid (pp=jj kd sign one n2 (eU l2) (L.drop k2))/\(L.drop k2).length<=n2/\(L.drop k2).length<=m/\l2.length+(L.drop k2).length<=L.length/\Hid (dA w0 wr rb af s a c L k2)/\Hid (fM wr (w.heap.size+1) a2 c2 l2)/\Hid (St (w.alloc dJ) wr rb)) (fun v _=>match v with| .slice _ n _=>300000-n|_=>0)
    ·exact⟨k1,_,_,(L.drop k1).length,[y],rfl,by rw[HY.out];exact iA.out.symm,anb _,by omega,by simp only[apW];omega,G1.out,N1.out,S1.out⟩
    obtain⟨k2,a2,c2,n2,l2,rfl,HP,hn2,hm2,kC,xk,gI,fV⟩:=hrel;have lo2:=xk.out.lo;have hlo:=gI.out.lt;have jJ:(L.drop k2).length=L.length-k2:=aoN;have hs1:w.heap.size+1<=wr.heap.size:=by have:=fV.out.grown.size;simpa using this
    have pV:=hid (PK.out _ _ xk.out.rd);unfold pX at pV
    by_cases eK:au (L.drop k2)=sign
    ·rw[eK]at pV
     have z:((tx sign).toList==(tx sign).toList)=true:=by simp
     have hk2:k2<L.length:=uz (by rw[eK];exact HS.out);obtain⟨n3,rfl⟩: ∃n3,n2=n3+1:=⟨n2-1,by omega⟩;have dm:=hid (HP.out.trans (GR eK));rw[apR]at dm;have FM:(L.drop (k2+1)).length=L.length-(k2+1):=aoN;have O2:=hid (fun(w:World) (R:dA w0 w rb af s a c L (k2+1))=>Ad.out w (k2+1) R (by omega));cases BP:one (L.drop (k2+1))with
     | error er=>
       rw[BP]at dm O2;clear BP eK;go_wp2_with fail;refine pV.out.mono ?_;rintro e w2 ⟨rfl,q⟩;have G2:=xk.out.below q.bt;obtain⟨c0,c1,lB,c3,f3,lt⟩:=G2.rd.cells;obtain⟨R3,S3⟩:=G2.rd.next hk2;have G3:=hid (G2.st S3 R3);have S3:=hid (fV.out.trans ((aX q.bt).trans S3));clear q G2 R3;go_wp2_with fail;refine(O2.out _ G3.out).mono ?_;rintro e w3 h;obtain⟨rfl,S4⟩:=h.err rfl;unfold fG;go_wp2;exact⟨rfl,(St.new (St.refl w rb) dJ).trans (S3.out.trans S4),.inl ⟨_,dm.out,rfl⟩⟩
     | ok p2=>
       obtain⟨x2,r2⟩:=p2;rw[BP]at dm O2;have hr2:=HH.out _ _ _ (by omega) BP;clear BP eK;go_wp2_with fail;refine pV.out.mono ?_;rintro e w2 ⟨rfl,q⟩;have G2:=xk.out.below q.bt;obtain⟨c0,c1,lB,c3,f3,lt⟩:=G2.rd.cells;obtain⟨R3,S3⟩:=G2.rd.next hk2;have G3:=hid (G2.st S3 R3);have S3:=hid ((aX (bw:=rb) q.bt).trans S3);have hq:=q.bt.size;clear q G2 R3;go_wp2_with fail;refine(O2.out _ G3.out).mono ?_;rintro e w3 h;obtain⟨k3,rfl,⟨y2,hy2,rfl,bH,dW⟩,R4,S4⟩:=h.cX rfl;have G4:=hid (G3.out.st S4 R4);have S5:=S3.out.trans S4;have N3:=gI.out.st S5 (by omega);have hO:=N3.own;have hs3:=S5.grown.size;have bH:=hid (bH.mono (B':=wr.heap.size) ah);have S5:=hid S5;clear h N3 S4 R4
       go_wp2_with (at_builtin;go_loud(refine jd kG (.tmp 24) (.tmp 27) rfl rfl rfl hO rfl rfl (by exact AY y2) (Below.refl _ w3) (by omega) (by omega) cz ?_))
       intro a' c' w4 dS hg kQ
       have dr:iD w4 (w.heap.size+1) a' (l2++[y2]).length c' (l2++[y2]):=by
        unfold iD;rw[j9,lG,aoW];exact dS
       have ha':a'≠none:=Own.some dr (by simp);obtain⟨N4,S6⟩:=gI.out.app (by omega) S5.out (by omega) bH.out dW dr hg ha';have N4:=hid N4;have S7:=hid (akJ (fV.out.trans S5.out) hg gI.out.ne ah);have G5:=hid (G4.out.gb (show w3.grownBy w4 (an7 (bk a2))from S6.grown) (by omega) (fun h=>by have:=HT.out h;omega) (by omega));have Ag:=hid (show pp=jj kd sign one n3 (eU (l2++[y2])) (L.drop k3) by rw[dm.out,Jt,vA,pY,hy2]);clear hO dS hg kQ dr S6;go_wp2
       go_roundw;exact⟨k3,a',c',n3,l2++[y2],by simp,Ag,by omega,by omega,by simp only[aoW,apW];omega,G5,N4,S7⟩;simp;omega
    have z:((tx (au (L.drop k2))).toList==(tx sign).toList)=false:=by rw[bh,bh];simpa using eK
    have dm:=hid (HP.out.trans (tJ eK));generalize au (L.drop k2)=u at*;obtain⟨n,hn⟩:=aj l2.length;have hl3:n<=1000000:=by omega
    by_cases h1:n=1
    ·subst h1
     obtain⟨y,rfl⟩: ∃y,l2=[y]:=List.length_eq_one_iff.1 hn;have EL:=iD.els gI.out.own (by omega);have ix:=EL.idx kG kN 0 (by simp) c2;rw[show((0:Nat):Int)=0 from rfl,hn]at ix;rw[hn];simp only[Nat.zero_mul,ano]at ix;go_wp2_with fail;refine pV.out.mono ?_;rintro e w2 ⟨rfl,q⟩;have N2:=gI.out.below q.bt;obtain⟨d0,d1,d2,d3,d4,d5⟩:=bK.nd (k:=0) (iD.els N2.own (by omega)) rfl;simp only[Nat.zero_mul,ano]at d0 d1 d2 d3 d4 d5;have S3:=fV.out.trans (aX (bw:=rb) q.bt);have G3:=hid (xk.out.below q.bt);have b8:=gj S3 hrb;have fz:=fun j=>(eW S3 (b:=w.heap.size) (by simp) (by omega) j).trans (aV w _ _ j)
     obtain⟨p0,p1,p2,p3,p4,p5⟩:=b8.gw;have N2:=hid N2;have S3:=hid S3;clear b8 q;go_wp2;exact bodyPost_ret (by simp[results,results299,go_sem,p0,p1,p2,p3,p4,p5]) rfl (VN.fin G3.out S3.out (by(repeat refine ur ?_ _ _);exact uu _ _) hrb HT.out y N2.out.y9.1 N2.out.y9.2 (by rw[dm.out];rfl) rfl)
    have z1:((n:Int)==1)=false:=ah
    rw[hn];go_wp2_with fail;refine pV.out.mono ?_;rintro e w2 ⟨rfl,q⟩;have N2:=gI.out.below q.bt;have S3:=fV.out.trans (aX (bw:=rb) q.bt);have G3:=hid (xk.out.below q.bt);have b8:=gj S3 hrb;have fz:=fun j=>(eW S3 (b:=w.heap.size) (by simp) (by omega) j).trans (aV w _ _ j)
    obtain⟨p0,p1,p2,p3,p4,p5⟩:=b8.gw;have N2:=hid (N2.node kd bT 0 (by decide) (by omega));have S3:=hid S3;clear b8 q;go_wp2;exact bodyPost_ret (by simp[results,results299,go_sem,p0,p1,p2,p3,p4,p5,hn,Nd.kind,Nd.th,bT,Nd.val,Nd.a,Nd.c,Nd.kids,aS]) rfl (VN.fin G3.out S3.out (by(repeat refine ur ?_ _ _);exact uu _ _) hrb HT.out (.mk kd bT 0 a2 c2 l2) N2.out.1 N2.out.2 (by rw[dm.out,AO,MQ (by rw[AL,hn];exact h1)];rfl) rfl)
theorem abo{w0 w:World}{rb:Nat}{af:Int}{s:Tx}{a:Option Addr}{c:Nat}{L:List Tok}{k m n:Nat}(R:dA w0 w rb af s a c L k)(hm:(L.drop k).length<=m)
 (ONE:sI 332 w0 rb af s a c L m (bV af n)):
 Calls prog 300 #[.pointer (some ⟨rb,0,none⟩)] w (gu w w0.heap.size rb af s a c L (iw 4 [47,92] (bV af n) (L.drop k)) (VN w.heap.size)):=by
 have R0:=R.below (al w dJ);have RW:=Sh (by decide) R0 4 [47,92] (by decide) hm ONE (fun l x r _ h=>(tD af n l x r h).2);have hrb:=R.lo.2;have HT:=hid (show L≠[]->bk a<w.heap.size from fun h=>R.rd.toks.lt kr (by omega) h);generalize iw 4 [47,92] (bV af n) (L.drop k)=p at*;have R0:=hid R0;clear ONE R;cases p with
 | error er=>
   have RW:=hid RW;go_in;go_wp2_with fail;refine RW.out.mono ?_;rintro e w1 h;obtain⟨rfl,S⟩:=h.err rfl;unfold fG;go_wp2;exact⟨rfl,(St.new (St.refl w rb) dJ).trans S,.inl ⟨_,rfl,rfl⟩⟩
 | ok q=>
   obtain⟨x,r⟩:=q;have RW:=hid RW;go_in;go_wp2_with fail;refine RW.out.mono ?_;rintro e w1 h;obtain⟨k1,rfl,⟨y,hy,rfl,bH,dW⟩,R1,S1⟩:=h.cX rfl;have b8:=gj S1 hrb;have fz:=fun j=>(eW S1 (b:=w.heap.size) (by simp) (by omega) j).trans (aV w _ _ j)
   obtain⟨p0,p1,p2,p3,p4,p5⟩:=b8.gw;have G1:=hid (R0.out.st S1 R1);have bH:=hid bH;have S1:=hid S1;clear h R1 b8;go_wp2;exact bodyPost_ret (by simp[results,results300,go_sem,p0,p1,p2,p3,p4,p5]) rfl (VN.fin G1.out S1.out (by(repeat refine ur ?_ _ _);exact uu _ _) hrb HT.out y (by simpa using bH.out) dW (by rw[hy]) rfl)
theorem abP{w0 w:World}{rb:Nat}{af:Int}{s:Tx}{a:Option Addr}{c:Nat}{L:List Tok}{k m n:Nat}(R:dA w0 w rb af s a c L k)(hm:(L.drop k).length<=m)
 (ONE:sI 300 w0 rb af s a c L m (iw 4 [47,92] (bV af n))):
 Calls prog 238 #[.pointer (some ⟨rb,0,none⟩)] w (gu w w0.heap.size rb af s a c L (iw 5 [92,47] (iw 4 [47,92] (bV af n)) (L.drop k)) (VN w.heap.size)):=by
 have R0:=R.below (al w dJ);have RW:=Sh (by decide) R0 5 [92,47] (by decide) hm ONE (fun l x r _ h=>(Dj (.inl rfl) (tD af n) l x r h).2);have hrb:=R.lo.2;have HT:=hid (show L≠[]->bk a<w.heap.size from fun h=>R.rd.toks.lt kr (by omega) h);generalize iw 5 [92,47] (iw 4 [47,92] (bV af n)) (L.drop k)=p at*;have R0:=hid R0;clear ONE R;cases p with
 | error er=>
   have RW:=hid RW;go_in;go_wp2_with fail;refine RW.out.mono ?_;rintro e w1 h;obtain⟨rfl,S⟩:=h.err rfl;unfold fG;go_wp2;exact⟨rfl,(St.new (St.refl w rb) dJ).trans S,.inl ⟨_,rfl,rfl⟩⟩
 | ok q=>
   obtain⟨x,r⟩:=q;have RW:=hid RW;go_in;go_wp2_with fail;refine RW.out.mono ?_;rintro e w1 h;obtain⟨k1,rfl,⟨y,hy,rfl,bH,dW⟩,R1,S1⟩:=h.cX rfl;have b8:=gj S1 hrb;have fz:=fun j=>(eW S1 (b:=w.heap.size) (by simp) (by omega) j).trans (aV w _ _ j)
   obtain⟨p0,p1,p2,p3,p4,p5⟩:=b8.gw;have G1:=hid (R0.out.st S1 R1);have bH:=hid bH;have S1:=hid S1;clear h R1 b8;go_wp2;exact bodyPost_ret (by simp[results,results238,go_sem,p0,p1,p2,p3,p4,p5]) rfl (VN.fin G1.out S1.out (by(repeat refine ur ?_ _ _);exact uu _ _) hrb HT.out y (by simpa using bH.out) dW (by rw[hy]) rfl)
theorem Sb{w0 w:World}{rb:Nat}{af:Int}{s:Tx}{a:Option Addr}{c:Nat}{L:List Tok}{k m n:Nat}(R:dA w0 w rb af s a c L k)(hm:(L.drop k).length<=m)
 (NOT:sI 332 w0 rb af s a c L m (bV af n)):
 Calls prog 238 #[.pointer (some ⟨rb,0,none⟩)] w (gu w w0.heap.size rb af s a c L (gY (bV af n) (L.drop k)) (VN w.heap.size)):=
 abP R hm fun w k R hm=>abo R hm NOT
structure aP(w w':World)(b:Nat):Prop where
 grown:w.grownBy w' (an7 b)
 size:w'.heap.size=w.heap.size
theorem aP.refl(w:World)(b:Nat):aP w w b:=⟨uu w b,rfl⟩
theorem aP.put{w w':World}{b:Nat}(h:aP w w' b)(j:Nat)(v:Value):aP w (w'.setCell ⟨b,j,none⟩ v) b:=⟨ur h.grown j v,by simpa using h.size⟩
theorem tu{w w':World}{b:Nat}(h:aP w w' b:=by(repeat with_reducible refine aP.put ?_ _ _);exact aP.refl _ _):aP w w' b:=h
theorem yz{w w':World}{b:Nat}(h:aP w w' b:=by repeat(first|with_reducible exact aP.refl _ _|with_reducible refine aP.put ?_ _ _|with_reducible refine aP.drew ?_|with_reducible refine aP.al ?_ _)):aP w w' b:=h
theorem aP.al{w w':World}{b:Nat}(h:aP w w' b)(o:Obj):aP (w.alloc o) (w'.alloc o) b:=by
 refine⟨⟨h.grown.os,h.grown.tape,h.grown.output,by simp[h.size],fun k hk hne=>?_⟩,by simp[h.size]⟩;rw[cR]at hk;rcases Nat.lt_or_ge k w.heap.size with h1|h1
 ·rw[heap_alloc_old _ _ (by rw[h.size];exact h1),heap_alloc_old _ _ h1];exact h.grown.block k h1 hne
 obtain rfl:k=w.heap.size:=by omega
 rw[heap_alloc_new];rw[<-h.size,heap_alloc_new]
theorem Wt{af:Int}{n:Nat}{l:List Tok}(h:au l=[126]):bV af (n+1) l=match bV af n l.tail with
 | .error e=>.error e
 | .ok (x,r)=>.ok (uN 3 [x],r):=by rw[bV,if_pos h];cases bV af n l.tail<;>rfl
theorem Wu{af:Int}{n:Nat}{l:List Tok}(h:au l=[40]):bV af (n+1) l=match gY (bV af n) l.tail with
 | .error e=>.error e
 | .ok (x,r)=>match bg [41] r with
   | .error e=>.error e
   | .ok r=>.ok (x,r):=by
 rw[bV,if_neg (by rw[h];decide),if_pos h];cases gY (bV af n) l.tail with
 |error e=>rfl
 |ok p=>rfl
theorem Wv{af:Int}{n:Nat}{l:List Tok}(h:au l=[116,114,117,101])(h2:au l.tail≠[61]):bV af (n+1) l= .ok (uN 1 [],l.tail):=by
 rw[bV,if_neg (by rw[h];decide),if_neg (by rw[h];decide),if_pos ⟨h,h2⟩]
theorem Ww{af:Int}{n:Nat}{l:List Tok}(h1:au l≠[126])(h2:au l≠[40])(h3:au l≠[116,114,117,101]\/au l.tail=[61]):bV af (n+1) l=js af l:=by
 rw[bV,if_neg h1,if_neg h2,if_neg];rintro⟨a,b⟩;rcases h3 with h|h
 ·exact h a
 exact b h
section
variable {w0 w:World} {rb:Nat} {af:Int} {s:Tx} {a:Option Addr} {c:Nat} {L:List Tok} {k m n:Nat}
theorem abJ(R:dA w0 w rb af s a c L k)(hm:(L.drop k).length<=m+1)(NOT:sI 332 w0 rb af s a c L m (bV af n))(h1:au (L.drop k)=[126]):
 Calls prog 332 #[.pointer (some ⟨rb,0,none⟩)] w (gu w w0.heap.size rb af s a c L (bV af (n+1) (L.drop k)) (VN w.heap.size)):=by
 have R0:=R.below (al w dJ);have hk:=uz (L:=L) (k:=k) (by rw[h1];decide);have hd:(L.drop (k+1)).length<=m:=by simp at hm ⊢; omega
 have PK:=hid (rS R0.rd);unfold pX at PK;rw[h1]at PK;rw[Wt h1,apR];have NT:=hid (fun(w:World) (R:dA w0 w rb af s a c L (k+1))=>NOT w (k+1) R hd);have hrb:=R.lo.2;have HT:=hid (show L≠[]->bk a<w.heap.size from fun h=>R.rd.toks.lt kr (by omega) h);generalize bV af n (L.drop (k+1))=p at*;have z:((tx [126]).toList==[126])=true:=by rw[bh];decide
 have hL:L.length<=262144:=R.rd.sm;generalize tx [126]=u at*;have R0:=hid R0;have HK:=hid hk;clear NOT R h1 hm hd;go_in;go_wp2_with fail;refine PK.out.mono ?_;rintro e w1 ⟨rfl,q⟩;have R1:=R0.out.below q.bt;obtain⟨c0,c1,c2,c3,f3,lt⟩:=R1.rd.cells;obtain⟨R2,S2⟩:=R1.rd.next HK.out;have S:=hid ((aX (bw:=rb) q.bt).trans S2);have hq:=q.bt.size;have G2:=hid (R1.st S2 R2);have NT:=hid (NT.out _ G2.out);clear R1 R2 S2 q;go_wp2_with fail;refine NT.out.mono ?_;rintro e w2 h;rcases p with er|⟨x,r⟩
 ·obtain⟨rfl,S3⟩:=h.err rfl
  unfold fG;go_wp2;exact⟨rfl,(St.new (St.refl w rb) dJ).trans (S.out.trans S3),.inl ⟨_,rfl,rfl⟩⟩
 obtain⟨k1,rfl,⟨y,hy,rfl,bH,dW⟩,R3,S3⟩:=h.cX rfl;have S4:=S.out.trans S3;have hsz:=S4.grown.size;have S5:=St.new S4 (bN y);have G3:=hid ((G2.out.st S3 R3).below (al w2 (bN y)));have N1:=fM.one (bH.mono (B':=w.heap.size+1) (by simp at hq ⊢; omega)) dW (by simp at hsz;omega);have N1:=hid (N1.node 3 bT 0 (by decide) (by simp));have Ux:w.heap.size<w2.heap.size:=by simp at hsz;omega
 have HB:Hid ((apV (uN 3 [x],L.drop k1):PR Nd)= .ok (bG (.mk 3 bT 0 (some ⟨w2.heap.size,0,none⟩) 1 [y]),L.drop k1)):=hid (by
  rw[bG,vA,pY,hy];rfl)
 have b8:=gj S4 hrb;have fz:=fun j=>(eW S4 (b:=w.heap.size) (by simp) (by omega) j).trans (aV w _ _ j)
 obtain⟨p0,p1,p2,p3,p4,p5⟩:=b8.gw;have S5:=hid S5;clear h R3 S3 b8 S4 bH;go_wp2;exact bodyPost_ret (by simp[results,results332,go_sem,p0,p1,p2,p3,p4,p5,Ux,Nd.kind,Nd.th,bT,Nd.val,Nd.a,Nd.c,Nd.kids,aS]) rfl (VN.fin G3.out S5.out (aP.grown (by refine aP.al ?_ _;(repeat refine aP.put ?_ _ _);exact aP.refl _ _)) hrb HT.out (.mk 3 bT 0 (some ⟨w2.heap.size,0,none⟩) 1 [y]) N1.out.1 N1.out.2 HB.out rfl)
theorem abK(R:dA w0 w rb af s a c L k)(hm:(L.drop k).length<=m+1)(NOT:sI 332 w0 rb af s a c L m (bV af n))(h1:au (L.drop k)=[40]):
 Calls prog 332 #[.pointer (some ⟨rb,0,none⟩)] w (gu w w0.heap.size rb af s a c L (bV af (n+1) (L.drop k)) (VN w.heap.size)):=by
 have R0:=R.below (al w dJ);have hk:=uz (L:=L) (k:=k) (by rw[h1];decide);have hd:(L.drop (k+1)).length<=m:=by simp at hm ⊢; omega
 have PK:=hid (fun(w:World) (R:cU w w0.heap.size rb af s a c L k)=>rS R);unfold pX at PK;rw[h1]at PK;rw[Wu h1,apR];have NT:=hid (fun(w:World) (R:dA w0 w rb af s a c L (k+1))=>Sb R hd NOT);have TK:=hid (fun(w:World) (k':Nat) (R:cU w w0.heap.size rb af s a c L k')=>vG R [41] (by decide));have hrb:=R.lo.2;have HT:=hid (show L≠[]->bk a<w.heap.size from fun h=>R.rd.toks.lt kr (by omega) h);generalize gY (bV af n) (L.drop (k+1))=p at*;have z:((tx [40]).toList==[126])=false:=by rw[bh];decide
 have z2:((tx [40]).toList==[40])=true:=by rw[bh];decide
 have hL:L.length<=262144:=R.rd.sm;generalize tx [40]=u at*;have R0:=hid R0;have HK:=hid hk;clear NOT R h1 hm hd
 obtain⟨Z,hZ⟩: ∃Z,(match p with
  | .error e=>.error e
  | .ok (x,r)=>match bg [41] r with
    | .error e=>.error e
    | .ok r=>.ok (x,r):PR Nd)=Z:=⟨_,rfl⟩
 rw[hZ];have HZ:=hid hZ;clear hZ;go_in;go_wp2_with fail;refine(PK.out _ R0.out.rd).mono ?_;rintro e w1 ⟨rfl,q⟩;have R1:=hid (R0.out.below q.bt);have S:=hid (aX (bw:=rb) q.bt);clear q;go_wp2_with fail;refine(PK.out _ R1.out.rd).mono ?_;rintro e w2 ⟨rfl,q⟩;have R1:=R1.out.below q.bt;have hq:=R1.bu.size;obtain⟨c0,c1,c2,c3,f3,lt⟩:=R1.rd.cells;obtain⟨R2,S2⟩:=R1.rd.next HK.out;have S:=hid ((S.out.trans (aX (bw:=rb) q.bt)).trans S2);have hsw:=S.out.grown.size;have G2:=hid (R1.st S2 R2);have NT:=hid (NT.out _ G2.out);clear R1 R2 S2 q;go_wp2_with fail;refine NT.out.mono ?_;rintro e w3 h;rcases p with er|⟨x,r⟩
 ·obtain⟨rfl,S3⟩:=h.err rfl
  have HZ:=HZ.out;simp only at HZ;subst HZ;unfold fG;go_wp2;exact⟨rfl,(St.new (St.refl w rb) dJ).trans (S.out.trans S3),.inl ⟨_,rfl,rfl⟩⟩
 obtain⟨k1,rfl,⟨y,hy,rfl,bH,dW⟩,R3,S3⟩:=h.cX rfl;have G3:=hid ((G2.out.st S3 R3).below (al w3 (bN y)));have TC:=hid (TK.out _ k1 G3.out.rd);have hs3:=S3.grown.size;have S4:=hid (St.new (S.out.trans S3) (bN y));have bH:=hid (bH.mono (B':=w.heap.size+1) (by simp at hsw ⊢; omega));have BJ:rb<w3.heap.size:=by simp at hsw hs3;omega
 clear h R3 S3;go_wp2_with fail;refine TC.out.mono ?_;rintro e w4 h;rcases htk:bg [41] (L.drop k1)with er|r2
 ·obtain⟨rfl,S5⟩:=h.err (show _=apT er by rw[htk];rfl)
  have HZ:=HZ.out;simp only[htk]at HZ;subst HZ;have S6:=hid (S4.out.trans S5);unfold fG;go_wp2;exact⟨rfl,(St.new (St.refl w rb) dJ).trans S6.out,.inl ⟨_,rfl,rfl⟩⟩
 have HZ:=HZ.out;simp only[htk]at HZ;subst HZ;obtain⟨k2,rfl,hv,R5,S5⟩:=h.cX (show _=apV ((),r2) by rw[htk];rfl);unfold VU at hv;subst hv;have b3:=gj S5 BJ;have S6:=S4.out.trans S5;have b8:=gj S6 hrb;have hsz:=S6.grown.size;have fz:=fun j=>(eW S6 (b:=w.heap.size) (by simp) (by omega) j).trans (aV w _ _ j)
 obtain⟨p0,p1,p2,p3,p4,p5⟩:=b8.gw;obtain⟨q0,q1,q2,q3,q4,q5⟩:=b3.gw;have G5:=hid (G3.out.st S5 R5);have bH:=hid ((bH.out.keep (al w3 (bN y))).st S5 (by omega));have S6:=hid S6;clear h htk R5 S5 b8 b3;go_wp2;exact bodyPost_ret (by simp[results,results332,go_sem,p0,p1,p2,p3,p4,p5]) rfl (VN.fin G5.out S6.out (by(repeat refine ur ?_ _ _);exact uu _ _) hrb HT.out y bH.out dW (by rw[hy]) rfl)
end
section
variable {w0 w:World} {rb:Nat} {af:Int} {s:Tx} {a:Option Addr} {c:Nat} {L:List Tok} {k m n:Nat}
theorem Xw{w:World}{B:Nat}(R:cU w B rb af s a c L k):Calls prog 236 #[.pointer (some ⟨rb,0,none⟩),.int .i64 1] w (Ex w (.string (tx (au (L.drop (k+1)))))):=Bd R 1 (by omega)
theorem abL(R:dA w0 w rb af s a c L k)(h1:au (L.drop k)=[116,114,117,101])(h2:au (L.drop (k+1))≠[61]):
 Calls prog 332 #[.pointer (some ⟨rb,0,none⟩)] w (gu w w0.heap.size rb af s a c L (bV af (n+1) (L.drop k)) (VN w.heap.size)):=by
 have R0:=R.below (al w dJ);have hk:=uz (L:=L) (k:=k) (by rw[h1];decide);have PK:=hid (fun(w:World) (R:cU w w0.heap.size rb af s a c L k)=>rS R);unfold pX at PK;have Az:=hid (fun(w:World) (R:cU w w0.heap.size rb af s a c L k)=>Xw R);rw[h1]at PK;rw[Wv h1 (by rw[apR];exact h2),apR];have hrb:=R.lo.2;have BU:=R.lo.1;have HT:=hid (show L≠[]->bk a<w.heap.size from fun h=>R.rd.toks.lt kr (by omega) h);have hL:L.length<=262144:=R.rd.sm;have HSH:=hid R.sh;have z:((tx [116,114,117,101]).toList==[126])=false:=by rw[bh];decide
 have z2:((tx [116,114,117,101]).toList==[40])=false:=by rw[bh];decide
 have z3:((tx [116,114,117,101]).toList==[116,114,117,101])=true:=by rw[bh];decide
 have z4:((tx (au (L.drop (k+1)))).toList==[61])=false:=cY _ _ h2;generalize tx [116,114,117,101]=u at*;generalize tx (au (L.drop (k+1)))=v at*;have R0:=hid R0;have HK:=hid hk;clear R h1 h2;go_in;go_wp2_with fail;refine(PK.out _ R0.out.rd).mono ?_;rintro e w1 ⟨rfl,q⟩;have R1:=hid (R0.out.below q.bt);have S:=hid (aX (bw:=rb) q.bt);clear q;go_wp2_with fail;refine(PK.out _ R1.out.rd).mono ?_;rintro e w2 ⟨rfl,q⟩;have R2:=hid (R1.out.below q.bt);have S:=hid (S.out.trans (aX (bw:=rb) q.bt));clear q R1;go_wp2_with fail;refine(PK.out _ R2.out.rd).mono ?_;rintro e w3 ⟨rfl,q⟩;have R3:=hid (R2.out.below q.bt);have S:=hid (S.out.trans (aX (bw:=rb) q.bt));clear q R2;go_wp2_with fail;refine(Az.out _ R3.out.rd).mono ?_;rintro e w4 ⟨rfl,q⟩;have R3:=hid (R3.out.below q.bt);have S:=hid (S.out.trans (aX (bw:=rb) q.bt));clear q;obtain⟨c0,c1,c2,c3,f3,lt⟩:=R3.out.rd.cells;obtain⟨R4,S4⟩:=R3.out.rd.next HK.out;have S5:=S.out.trans S4;have b8:=gj S.out hrb;have fz:=fun j=>(eW S.out (b:=w.heap.size) (by simp) (by omega) j).trans (aV w _ _ j)
 obtain⟨p0,p1,p2,p3,p4,p5⟩:=b8.gw;have hne:w.heap.size≠rb:=by omega
 have G5:=hid (R3.out.st S4 R4);have S5:=hid S5;clear S4 R4 b8;go_wp2;exact bodyPost_ret (by simp[results,results332,go_sem,p0,p1,p2,p3,p4,p5,Nd.kind,Nd.th,bT,Nd.val,Nd.a,Nd.c,Nd.kids,aS]) rfl (VN.fin G5.out S5.out (aP.grown tu) hrb HT.out (.mk 1 bT 0 none 0 []) (aZ.leaf _ _ 1 bT 0 (by decide)).1 (aZ.leaf w1 0 1 bT 0 (by decide)).2 (by rw[bG,pY];rfl) rfl)
theorem JP(R:dA w0 w rb af s a c L k)(h1:au (L.drop k)≠[126])(h2:au (L.drop k)≠[40])(h3:au (L.drop k)≠[116,114,117,101]\/au (L.drop (k+1))=[61]):
 Calls prog 332 #[.pointer (some ⟨rb,0,none⟩)] w (gu w w0.heap.size rb af s a c L (bV af (n+1) (L.drop k)) (VN w.heap.size)):=by
 have R0:=R.below (al w dJ);have PK:=hid (fun(w:World) (R:cU w w0.heap.size rb af s a c L k)=>rS R);unfold pX at PK;have Az:=hid (fun(w:World) (R:cU w w0.heap.size rb af s a c L k)=>Xw R);rw[Ww h1 h2 (by rw[apR];exact h3)];have hrb:=R.lo.2;have BU:=R.lo.1;have HT:=hid (show L≠[]->bk a<w.heap.size from fun h=>R.rd.toks.lt kr (by omega) h);have hL:L.length<=262144:=R.rd.sm;have HSH:=hid R.sh;have z:((tx (au (L.drop k))).toList==[126])=false:=cY _ _ h1;have z2:((tx (au (L.drop k))).toList==[40])=false:=cY _ _ h2
 have HB:=hid (show((tx (au (L.drop k))).toList==[116,114,117,101])=false\/(((tx (au (L.drop k))).toList==[116,114,117,101])=true/\au (L.drop (k+1))=[61]) by
  by_cases h:au (L.drop k)=[116,114,117,101]
  ·exact .inr ⟨by rw[bh,h];decide,h3.resolve_left (fun g=>g h)⟩
  exact .inl (cY _ _ h))
 have TH:=hid (fun(w:World) (R:dA w0 w rb af s a c L k)=>ajn R.rd R.sh R.gl);have TK:=hid (fun(w:World) (k':Nat) (R:cU w w0.heap.size rb af s a c L k')=>vG R [61] (by decide));have IC:=hid (fun(w:World) (k':Nat) (R:dA w0 w rb af s a c L k')=>RV R.rd R.sh (-2147483648) 2147483647 (by decide) (by decide) R.gl);generalize tx (au (L.drop k))=u at*;have R0:=hid R0;obtain⟨Z,hZ⟩:=aj (js af (L.drop k));rw[hZ];have HZ:=hid hZ;clear R h1 h2 h3 hZ;go_in;go_wp2_with fail;refine(PK.out _ R0.out.rd).mono ?_;rintro e w1 ⟨rfl,q⟩;have R1:=hid (R0.out.below q.bt);have S:=hid (aX (bw:=rb) q.bt);clear q;go_wp2_with fail;refine(PK.out _ R1.out.rd).mono ?_;rintro e w2 ⟨rfl,q⟩;have R2:=hid (R1.out.below q.bt);have S:=hid (S.out.trans (aX (bw:=rb) q.bt));clear q R1;go_wp2_with fail;refine(PK.out _ R2.out.rd).mono ?_;rintro e w3 ⟨rfl,q⟩;have R3:=hid (R2.out.below q.bt);have S:=hid (S.out.trans (aX (bw:=rb) q.bt));clear q R2;rcases HB.out with z3|⟨z3,h4⟩
 all_goals clear HB
 rotate_left
 rw[h4]at Az;have z4:((tx [61]).toList==[61])=true:=by rw[bh];decide
 generalize tx [61]=v at Az z4;clear h4;go_wp2_with fail;refine(Az.out _ R3.out.rd).mono ?_;rintro e w4 ⟨rfl,q⟩;have R3:=hid (R3.out.below q.bt);have S:=hid (S.out.trans (aX (bw:=rb) q.bt));clear q
 all_goals
  have TH:=hid (TH.out _ R3.out);go_wp2_with fail;refine TH.out.mono ?_;rintro e w5 h;rcases mJ:eY af (L.drop k)with er|⟨t,r⟩
  ·have nW:=hid mJ
   have HZ:=HZ.out;simp only[js,mJ]at HZ;subst HZ;obtain⟨rfl,S5⟩:=h.err (show _=apT er by rw[nW.out]);unfold fG;go_wp2;exact⟨rfl,(St.new (St.refl w rb) dJ).trans (S.out.trans S5),.inl ⟨_,rfl,rfl⟩⟩
  have nW:=hid mJ;clear mJ;obtain⟨k1,rfl,⟨rfl,hx⟩,R5,S5⟩:=h.cX (show _=apV (t,r) by rw[nW.out]);have HX:=hid hx;have R5:=hid ((R3.out.st S5 R5).below (al w5 (bN (.mk 2 t 0 none 0 []))));have hs5:=S5.grown.size;have adS:=S.out.grown.size;have adG:rb<w5.heap.size:=by simp at adS;omega
  have adJ:w5.heap.size≠rb:=by omega
  have S:=hid (S.out.trans S5);have hS5:=S.out.grown.size;have TC:=hid (TK.out _ k1 R5.out.rd);clear h hx R3 S5;go_wp2_with fail;refine TC.out.mono ?_;rintro e w6 h;rcases htk:bg [61] (L.drop k1)with er|r2
  ·have jW:=hid htk
   have HZ:=HZ.out;simp only[js,nW.out,htk]at HZ;subst HZ;obtain⟨rfl,S6⟩:=h.err (show _=apT er by rw[jW.out];rfl);unfold fG;go_wp2;exact⟨rfl,(St.new (St.refl w rb) dJ).trans ((St.new S.out (bN (.mk 2 t 0 none 0 []))).trans S6),.inl ⟨_,rfl,rfl⟩⟩
  have jW:=hid htk;clear htk;obtain⟨k2,rfl,hv,R6,S6⟩:=h.cX (show _=apV ((),r2) by rw[jW.out];rfl);unfold VU at hv;subst hv;have R6:=hid (R5.out.st S6 R6);have IT:=hid (IC.out _ k2 R6.out);have S6:=hid S6;clear h R5;go_wp2_with fail;refine IT.out.mono ?_;rintro e w7 h;rcases hin:jM (-2147483648) 2147483647 (L.drop k2)with er|⟨v',r3⟩
  ·have tX:=hid hin
   have HZ:=HZ.out;simp only[js,nW.out,jW.out,hin]at HZ;subst HZ;obtain⟨rfl,S7⟩:=h.err (show _=apT er by rw[tX.out]);unfold fG;go_wp2;exact⟨rfl,(St.new (St.refl w rb) dJ).trans ((St.new S.out (bN (.mk 2 t 0 none 0 []))).trans (S6.out.trans S7)),.inl ⟨_,rfl,rfl⟩⟩
  have tX:=hid hin;have HZ:=HZ.out;simp only[js,nW.out,jW.out,hin]at HZ;subst HZ;clear hin;obtain⟨k3,rfl,hv,R7,S7⟩:=h.cX (show _=apV (v',r3) by rw[tX.out]);unfold VI at hv;subst hv;have b4:=gj (S6.out.trans S7) adG;have S8:=(St.new S.out (bN (.mk 2 t 0 none 0 []))).trans (S6.out.trans S7);have b8:=gj S8 hrb;have F8:=(S6.out.trans S7).grown.size;have fz:=fun j=>(eW S8 (b:=w.heap.size) (by simp) (by omega) j).trans (aV w _ _ j)
  have fy:=fun j=>(eW (S6.out.trans S7) (b:=w5.heap.size) (by simp) (by omega) j).trans (aV w5 _ _ j)
  obtain⟨p0,p1,p2,p3,p4,p5⟩:=b8.gw;obtain⟨q0,q1,q2,q3,q4,q5⟩:=b4.gw;have Ux:w.heap.size<w5.heap.size:=by simp at hS5;omega
  have amT:w5.heap.size≠w.heap.size:=by omega
  have amP:w5.heap.size<w7.heap.size:=by simp at F8;omega
  have R7:=hid (R6.out.st S7 R7);have S8:=hid S8;clear h b4 b8 S7 R6;go_wp2;exact bodyPost_ret (by simp[results,results332,go_sem,p0,p1,p2,p3,p4,p5,Nd.kind,Nd.th,Nd.val,Nd.a,Nd.c,Nd.kids]) rfl (VN.fin (R7.out.gb (ur (uu _ _) 4 _) adJ (fun h=>by have:=HT.out h;omega) (by omega)) (St.put S8.out (b:=w5.heap.size) ah 4 _) (aP.grown tu) hrb HT.out (.mk 2 t v' none 0 []) (aZ.leaf _ _ 2 t v' HX.out).1 (aZ.leaf w1 0 2 t v' HX.out).2 (by rw[bG,pY]) rfl)
theorem abN(H:sI 332 w0 rb af s a c L m (bV af n))(R:dA w0 w rb af s a c L k)(hm:(L.drop k).length<=m+1):Calls prog 332 #[.pointer (some ⟨rb,0,none⟩)] w (gu w w0.heap.size rb af s a c L (bV af (n+1) (L.drop k)) (VN w.heap.size)):=by
 by_cases h1:au (L.drop k)=[126]
 ·exact abJ R hm H h1
 by_cases h2:au (L.drop k)=[40]
 ·exact abK R hm H h2
 by_cases h3:au (L.drop k)=[116,114,117,101]
 ·by_cases h4:au (L.drop (k+1))=[61]
  ·exact JP R h1 h2 (.inr h4)
  exact abL R h3 h4
 exact JP R h1 h2 (.inl h3)
theorem abM(R:dA w0 w rb af s a c L k)(hm:(L.drop k).length=0):Calls prog 332 #[.pointer (some ⟨rb,0,none⟩)] w (gu w w0.heap.size rb af s a c L (bV af (n+1) (L.drop k)) (VN w.heap.size)):=by
 have h:au (L.drop k)=[]:=by rw[List.eq_nil_of_length_eq_zero hm];rfl
 exact JP R (by rw[h];decide) (by rw[h];decide) (.inl (by rw[h];decide))
theorem abI(n:Nat):sI 332 w0 rb af s a c L n (bV af (n+1)):=by
 induction n with
 |zero=>intro w k R hm;exact abM R (by omega)
 |succ n ih=>intro w k R hm;exact abN ih R hm
theorem ajk(R:dA w0 w rb af s a c L k):Calls prog 238 #[.pointer (some ⟨rb,0,none⟩)] w (gu w w0.heap.size rb af s a c L (gY (bV af ((L.drop k).length+1)) (L.drop k)) (VN w.heap.size)):=
 Sb R (anb _) (abI _)
end
end Go.Proofs.YtkbbgjloifmmbaaGreatDoor
