/- What ReadBackP leans on, part 17. -/
import Derived.Test.YtkbbgjloifmmbaaGreatDoorRb16
import Derived.RegionTactic
import Derived.Deep.LoopGhost
import Derived.Laws.Runes
import Derived.Laws.RangeString
import Derived.Scope
import Derived.Shelf.Strings.FieldsFuncGrows
set_option linter.unusedVariables false
set_option maxRecDepth 1000000
set_option maxHeartbeats 6400000
namespace Go.Proofs.YtkbbgjloifmmbaaGreatDoor
open _root_.Go.Proofs.Tryz
open _root_.List renaming mem_append->anu,getElem?_eq_getElem->amK,takeWhile_append_dropWhile->anL,nodup_cons->aoC,dropWhile_append_of_pos->aoD,length_append->aoE,takeWhile_cons_of_pos->aoF,dropWhile_cons_of_pos->aoG,dropWhile_suffix->aoI,mem_singleton->anw,all_takeWhile->aoa,all_eq_true->anq
open _root_.Go.Lib renaming indexByte->aoB
open _root_.Option renaming some->aos
open _root_.Nat renaming le_refl->amS
open _root_.Go.Utf8 renaming valid->aoH
open Go.RowKit Go.Sort
theorem aG.set{w:World}{b:Nat}{l:List Value}(h:aG w b l)(k:Nat)(v:Value):aG (w.setCell ⟨b,k,none⟩ v) b (l.set k v):=by
 refine⟨by simpa using h.1,fun j hj=>?_⟩;rw[List.length_set]at hj;have h1:=h.2 j hj
 by_cases e:k=j
 ·subst e
  rw[List.getElem?_set_self hj];rw[amK hj]at h1;exact World.cell?_setCell_same _ _ _ h1
 ·rw[List.getElem?_set_ne e,World.cell?_setCell_other _ _ _ _ (by intro e2;injection e2 with _ e3;exact e e3)]
  exact h1
theorem PI(w:World)(p q:Addr)(v:Value):(w.setCell p v).frozen? q=w.frozen? q:=World.frozen?_setCell _ _ _ _
structure nC(w w1:World)(B rb b5:Nat)(af:Int)(s:Tx)(a:Option Addr)(c:Nat)(L:List Tok)(k:Nat)(n:Int):Prop where
 rd:b7 w1 B rb af s a c L k
 st:St (w.alloc fI) w1 rb
 bx: ∃m:Int,aG w1 b5 [.int .i64 n,.int .i64 m,.string ⟨#[]⟩]
 f5: ∀j,w1.frozen? ⟨b5,j,none⟩=false
 lo:w.heap.size<b5
section
variable {w w1 w2:World} {B rb b5:Nat} {af:Int} {s:Tx} {a:Option Addr} {c:Nat} {L:List Tok} {k:Nat} {n:Int}
theorem nC.below(h:nC w w1 B rb b5 af s a c L k n)(hb:Below w1.heap.size w1 w2):nC w w2 B rb b5 af s a c L k n:=by
 obtain⟨m,hm⟩:=h.bx;exact⟨h.rd.below hb,h.st.trans (aX hb),⟨m,hm.below hb⟩,fun j=>by rw[hb.frozen (p:=⟨b5,j,none⟩) hm.1];exact h.f5 j,h.lo⟩
theorem nC.put(h:nC w w1 B rb b5 af s a c L k n)(hr:b5≠rb)(ht:L≠[]->bk a<w.heap.size)(m:Int):nC w (w1.setCell ⟨b5,1,none⟩ (.int .i64 m)) B rb b5 af s a c L k n/\aG (w1.setCell ⟨b5,1,none⟩ (.int .i64 m)) b5 [.int .i64 n,.int .i64 m,.string ⟨#[]⟩]:=by
 obtain⟨m0,hm⟩:=h.bx;have hb:=hm.set 1 (.int .i64 m);exact⟨⟨h.rd.put hr (fun hL=>by have:=ht hL;have:=h.lo;omega) _ _,St.put h.st (by have:=h.lo;simp;omega) _ _,⟨m,hb⟩,fun j=>by rw[PI];exact h.f5 j,h.lo⟩,hb⟩
end
def Tt(n:Int)(r:List Tok)(ro:Option Nat):PR Th:=match ro with
 |none=>.error r
 |some k=>.ok (⟨n,k,[]⟩,r.tail)
theorem aiH(af:Int)(m:Nat)(h:(m:Int)<cE af):cz af m≠[]:=by
 unfold cz;split
 ·next e=>
  subst e;have h2:m<15:=by unfold cE at h;rw[if_pos rfl]at h;omega
  have: ∀k:Fin 15,aO k.1≠[]:=by decide
  exact this ⟨m,h2⟩
 ·simp[bH]
theorem aiO(af:Int):dQ af []=none:=by
 unfold dQ;rw[List.find?_eq_none];intro m hm;simp[aiH af m (by have:=List.mem_range.1 hm;omega)]
theorem aiN{af:Int}{l:Tx}{j:Nat}(h:dQ af l=some j):l≠[]:=fun e=>by rw[e,aiO]at h;cases h
theorem aaB{w:World}{B rb:Nat}{af:Int}{s:Tx}{a:Option Addr}{c:Nat}{L:List Tok}{k:Nat}(R:b7 w B rb af s a c L k)(hsh: ∀t∈L,t.1.length<=s.length)(g:Gl w)(kL:aA (L.drop k)≠[91])(hn:qu (aA (L.drop k))=true):
 Calls prog 350 #[.pointer (some ⟨rb,0,none⟩)] w (eO w B rb af s a c L (gv af (L.drop k)) VT):=by
 obtain⟨-, -, -, -, -, hrb⟩:=R.cells;have htk:L≠[]->bk a<w.heap.size:=fun h=>R.toks.lt jb (by omega) h
 have R0:=R.below (al w fI);have g0:=g.below (al w fI);have PK:=hid (qz R0);unfold oN at PK;have IC:=hid (fun(w:World) (R:b7 w B rb af s a c L k) (g:Gl w)=>Ou R hsh 0 15 (by decide) (by decide) g);have TK:=hid (fun(w:World) (k':Nat) (R:b7 w B rb af s a c L k')=>vo R [58] (by decide));rw[aku kL hn];have HR:=hid R0;generalize aA (L.drop k)=u at*;have z:((tx u).toList==[91])=false:=jm _ _ kL
 obtain⟨d,r0,rfl,hd⟩: ∃d r,u=d::r/\(aR d||d==45)=true:=by
  cases u with
  |nil=>cases hn
  |cons d r=>exact⟨d,r,rfl,hn⟩
 have z2:((tx (d::r0)).toList==[])=false:=jm _ _ (by simp);have FM:(tx (d::r0)).toList.isEmpty=false:=by rw[<-List.beq_nil_eq];exact z2
 have ix:=mJ (d::r0) d rfl;generalize tx (d::r0)=u at*;obtain⟨b,hb⟩: ∃b,aR d=b:=⟨_,rfl⟩;have HD:=hid hb
 have z3:b=false->((d.toNat:Int)==45)=true:=fun h=>by
  subst h;rw[hb,Bool.false_or]at hd;have:d=45:=by simpa using hd
  rw[this];decide
 have tP:w.heap.size≠rb:=by omega
 have iK:=hid (show L≠[]->bk a<w.heap.size from htk);clear hsh kL R R0 hn hd hb htk g
 have main: ∀(p:PR Int),jf 0 15 (L.drop k)=p->Calls prog 350 #[.pointer (some ⟨rb,0,none⟩)] w (eO w B rb af s a c L (match p with
  | .error e=>.error e
  | .ok (n,r)=>match bt [58] r with
    | .error e=>.error e
    | .ok r=>match dQ af (aA r)with
      |none=>.error r
      |some k=>.ok (⟨n,k,[]⟩,r.tail)) VT):=by
  intro p hp;rw[hp]at IC;clear hp;cases p with
  | error l=>
    simp only;cases b
    all_goals
     (try have z3:=z3 rfl)
     go_in;go_wp2_with fail;refine PK.out.mono ?_;rintro e w1 ⟨rfl,q⟩;have IC:=hid (IC.out _ (HR.out.below q.aQ) (g0.below q.aQ));have S:=hid ((St.new (St.refl w rb) fI).trans (aX (bw:=rb) q.aQ));clear q
     go_wp2_with (go_at_call 298;refine(iB d _).mono ?_;rintro e w' ⟨rfl,rfl⟩;rw[HD.out])
     refine IC.out.mono ?_;rintro e w2 h;obtain⟨rfl,S3⟩:=h.err rfl;unfold dU;go_wp2_with fail;exact⟨rfl,S.out.trans S3,.inl ⟨_,rfl,rfl⟩⟩
  | ok q=>
    obtain⟨n,r⟩:=q;simp only;cases DW:bt [58] r with
    | error l=>
      simp only;cases b
      all_goals
       (try have z3:=z3 rfl)
       go_in;go_wp2_with fail;refine PK.out.mono ?_;rintro e w1 ⟨rfl,q⟩;have IC:=hid (IC.out _ (HR.out.below q.aQ) (g0.below q.aQ));have S:=hid (aX (bw:=rb) q.aQ);clear q
       go_wp2_with (go_at_call 298;refine(iB d _).mono ?_;rintro e w' ⟨rfl,rfl⟩;rw[HD.out])
       refine IC.out.mono ?_;rintro e w2 h;obtain⟨k2,rfl,hv,R3,S3⟩:=h.fP rfl;unfold VI at hv;subst hv;have TC:=hid (TK.out _ k2 (R3.below (al _ (.cells #[.int .i64 n,.int .i64 0,.string ⟨#[]⟩] 25))));have HT:=hid DW;have Ea:rb<w2.heap.size:=R3.cells.2.2.2.2.2;have hs2:=(S.out.trans S3).grown.size;have S:=hid (St.new (S.out.trans S3) (.cells #[.int .i64 n,.int .i64 0,.string ⟨#[]⟩] 25));clear R3 S3 h DW;go_wp2_with fail;refine TC.out.mono ?_;rintro e w3 h;obtain⟨rfl,S4⟩:=h.err (show _=Except.error l by rw[HT.out];rfl);unfold dU;go_wp2_with fail;exact⟨rfl,(St.new (St.refl w rb) fI).trans (S.out.trans S4),.inl ⟨_,rfl,rfl⟩⟩
    | ok r2=>
      simp only;obtain⟨ro,hro⟩: ∃ro,dQ af (aA r2)=ro:=⟨_,rfl⟩;rw[hro];show Calls _ _ _ _ (eO w B rb af s a c L (Tt n r2 ro) VT);cases b
      all_goals
       (try have z3:=z3 rfl)
       go_in;go_wp2_with fail;refine PK.out.mono ?_;rintro e w1 ⟨rfl,q⟩;have IC:=hid (IC.out _ (HR.out.below q.aQ) (g0.below q.aQ));have S:=hid (aX (bw:=rb) q.aQ);clear q
       go_wp2_with (go_at_call 298;refine(iB d _).mono ?_;rintro e w' ⟨rfl,rfl⟩;rw[HD.out])
       refine IC.out.mono ?_;rintro e w2 h;obtain⟨k2,rfl,hv,R3,S3⟩:=h.fP rfl;unfold VI at hv;subst hv;have TC:=hid (TK.out _ k2 (R3.below (al _ (.cells #[.int .i64 n,.int .i64 0,.string ⟨#[]⟩] 25))));have HT:=hid DW;have Ea:rb<w2.heap.size:=R3.cells.2.2.2.2.2;have hs2:=(S.out.trans S3).grown.size;have S:=hid (St.new (S.out.trans S3) (.cells #[.int .i64 n,.int .i64 0,.string ⟨#[]⟩] 25));clear R3 S3 h DW;go_wp2_with fail;refine TC.out.mono ?_;rintro e w3 h;obtain⟨k3,rfl,hv,R5,S4⟩:=h.fP (show _=Except.ok ((),r2) by rw[HT.out];rfl);unfold VU at hv;subst hv;have N2:nC w w3 B rb w2.heap.size af s a c L k3 n:=⟨R5,S.out.trans S4,⟨0,kD S4 Ea⟩,fun j=>(iO S4 (b:=w2.heap.size) (by simp) (by omega) j).trans (ew w2 _ _ j),by simp at hs2;omega⟩;have oK:=hid (fun(w:World) (R:b7 w B rb af s a c L k3)=>qz R);unfold oN at oK;obtain⟨v,hv⟩: ∃v,aA (L.drop k3)=v:=⟨_,rfl⟩;rw[hv]at oK;have RO:=hid (fun w=>aaq af v w);rw[<-hv,hro,hv]at RO;have XD:=hid hro;have IE:w2.heap.size≠rb:=by omega
       clear R5 S4 h S hs2 TC HT hro IC HR PK TK;have N2:=N2.below (below_drewN w3 1);have N2:nC w w3.drew B rb w2.heap.size af s a c L k3 n:=N2;have c0:=N2.rd.cells.1;obtain⟨m,hm⟩:=N2.bx;have p1:=hm.get 1 _ rfl;have f1:=N2.f5 1;go_wp2_with fail
       go_region_held3 (fun w'=>nC w w' B rb w2.heap.size af s a c L k3 n/\w'.cell? ⟨rb,0,none⟩=some (.int .i64 af)) (first|exact⟨by assumption,by assumption⟩|exact⟨(nC.put (by assumption) IE iK.out _).1,(nC.put (by assumption) IE iK.out _).1.rd.cells.1⟩)
        (first
         |(go_at_call 236;refine(oK.out _ N2.rd).mono ?_;rintro e w' ⟨rfl,q⟩;have N2:=N2.below q.aQ;have c0:=N2.rd.cells.1;obtain⟨m,hm⟩:=N2.bx;have p1:=hm.get 1 _ rfl;have f1:=N2.f5 1)
         |(go_at_call 357;refine(RO.out _).mono ?_;rintro e w' ⟨rfl,E'⟩;have N2:=N2.below E';have c0:=N2.rd.cells.1;obtain⟨m,hm⟩:=N2.bx;have p1:=hm.get 1 _ rfl;have f1:=N2.f5 1))
       obtain⟨N3,b3⟩:=nC.put N2 IE iK.out (Br ro);clear N2 hm p1 f1 c0 oK RO
       revert N3 b3
       generalize w'.setCell ⟨w2.heap.size,1,none⟩ (.int .i64 (Br ro))=w5;intro N3 b3;have R3:=N3.rd;obtain⟨c0,c1,c2,c3,f3,lt⟩:=R3.cells;have q0:=b3.get 0 _ rfl;have q1:=b3.get 1 _ rfl;have q2:=b3.get 2 _ rfl;have HN:=hid N3;have FL:=hid (Ai R3);have b2:=kD N3.st hrb;have fz:=fun j=>(iO N3.st (b:=w.heap.size) (by simp) (by omega) j).trans (ew w _ _ j)
       have p0:=b2.get 0 _ rfl;have p1:=b2.get 1 _ rfl;have p2:=b2.get 2 _ rfl;clear N3 b3 R3 b2;cases ro with
       | none=>
         have zo:Br none= -1:=rfl;rw[zo]at q1;go_wp2_with fail;refine FL.out.mono ?_;rintro e w6 ⟨rfl,q⟩;unfold dU;go_wp2_with fail;exact⟨rfl,(St.new (St.refl w rb) fI).trans (HN.out.st.trans (aX q.aQ)),.inl ⟨_,rfl,rfl⟩⟩
       | some j=>
         have zo:Br (some j)=(j:Int):=rfl;rw[zo]at q1;have zl:decide ((j:Int)<0)=false:=by simp
         have x9:=tK (aiN XD.out);obtain⟨R6,S6⟩:=HN.out.rd.next x9;have Xz:=hid R6;have XH:=hid S6;have hsm:=HN.out.rd.sm;have hne:w.heap.size≠rb:=by omega
         have en:=hid (show L≠[]->bk a≠w.heap.size from fun h=>by have:=iK.out h;omega);clear R6 S6;go_wp2_with fail;exact bodyPost_ret (by simp[results,results350,go_sem,p0,p1,p2,iq]) rfl ⟨St.put (St.put (St.put ((St.new (St.refl w rb) fI).trans (HN.out.st.trans XH.out)) (amS _) _ _) (amS _) _ _) (amS _) _ _,.inr ⟨⟨n,j,[]⟩,k3+1,by simp[Tt],⟨rfl,by simp⟩,((Xz.out.put hne en.out _ _).put hne en.out _ _).put hne en.out _ _⟩⟩
 exact main _ rfl
theorem lz(w:World)(o:Obj):(w.alloc o).heap.size=w.heap.size+1:=by simp
abbrev nD(w:World)(B:Nat)(a:Option Addr)(n c:Nat)(l:List Nd):Prop:=Own w B 28 6 a n c (flat cN l)
def Gr(w:World)(P:Prop)(e:Ending)(w':World):Prop:= ∃b:Bool,e= .returned (.bool b)/\(b=true<->P)/\Below w.heap.size w w'
theorem j5.step{w w':World}{b:Nat}{x:Nd}{sa a':Option Addr}(h:j5 w b x)(hs:Step w w' sa a')(hne:sa=none\/b≠bk sa):j5 w' b x:=by
 refine⟨Nat.lt_of_lt_of_le h.1 hs.grown.size,fun k hk=>?_⟩;rw[<-h.2 k hk];obtain⟨v,hv⟩: ∃v,w.cell? ⟨b,k,none⟩=some v:=⟨_,(h.2 k hk).trans (amK (by rw[ja];exact hk))⟩;rw[hv];refine hs.grown.cell hv ?_;cases sa with
 |none=>simp
 |some y=> rcases hne with h2|h2
           ·cases h2
           ·simpa[bk]using h2
theorem Own.aep(w:World)(x:Nd):nD (w.alloc (aS x)) w.heap.size (aos ⟨w.heap.size,0,none⟩) 1 1 [x]:=by
 have h:=World.ownsRow_lit w (e:=28) #[.int .i64 x.kind,.int .i64 x.th.thread,.int .i64 x.th.au,.string (tx x.th.loc),.int .i64 x.val,.slice x.a x.kids.length x.c] 1 (amS w.heap.size) (size:=6) (by unfold maxLen;omega) (by simp);exact h
inductive bz(w:World)(B:Nat):Nd->Prop where
 |mk (x:Nd) (hl:x.th.loc.length<=262144) (hn:x.kids.length<=1000000) (ho:nD w B x.a x.kids.length x.c x.kids) (h: ∀k∈x.kids,bz w B k):bz w B x
theorem bz.loc{w:World}{B:Nat}{x:Nd}(h:bz w B x):x.th.loc.length<=262144:=by cases h;assumption
theorem bz.few{w:World}{B:Nat}{x:Nd}(h:bz w B x):x.kids.length<=1000000:=by cases h;assumption
theorem bz.own{w:World}{B:Nat}{x:Nd}(h:bz w B x):nD w B x.a x.kids.length x.c x.kids:=by cases h;assumption
theorem bz.dm{w:World}{B:Nat}{x:Nd}(h:bz w B x): ∀k∈x.kids,bz w B k:=by cases h;assumption
def zX(a:Option Addr):List Nat:=match a with
 |none=>[]
 |some p=>[p.block]
mutual
def gA:Nd->List Nat
 | .mk _ _ _ a _ l=>zX a++kI l
def kI:List Nd->List Nat
 |[]=>[]
 |x::r=>gA x++kI r
end
theorem zZ(x:Nd):gA x=zX x.a++kI x.kids:=by cases x;rw[gA];rfl
theorem Dm:kI []=[]:=by rw[kI]
theorem zY(x:Nd)(r:List Nd):kI (x::r)=gA x++kI r:=by rw[kI]
theorem Nw: ∀(l r:List Nd),kI (l++r)=kI l++kI r
 |[],r=>by simp[Dm]
 |x::l,r=>by rw[List.cons_append,zY,zY,Nw l r,List.append_assoc]
theorem GL(x:Nd):kI [x]=gA x:=by rw[zY,Dm,List.append_nil]
theorem J3{b:Nat}: ∀{l:List Nd},b∈kI l-> ∃k∈l,b∈gA k
 |[],h=>by rw[Dm]at h;cases h
 | x::r,h=>by
   rw[zY,anu]at h;rcases h with h|h
   ·exact⟨x,List.mem_cons_self,h⟩
   ·obtain⟨k,hk,hb⟩:=J3 h;exact⟨k,List.mem_cons_of_mem _ hk,hb⟩
theorem Jn{b:Nat}{k:Nd}: ∀{l:List Nd},k∈l->b∈gA k->b∈kI l
 | x::r,h,hb=>by
   rw[zY,anu];rcases List.mem_cons.1 h with rfl|h
   ·exact .inl hb
   ·exact .inr (Jn h hb)
theorem bz.lt{w:World}{B:Nat}: ∀{x:Nd},bz w B x-> ∀b∈gA x,B<=b/\b<w.heap.size:=by
 intro x
 induction x using Nd.ind with
 | h x ih=>
   intro h b hb;rw[zZ,anu]at hb;rcases hb with hb|hb
   ·cases ha:x.a with
    |none=>rw[ha]at hb;cases hb
    | some p=>
      rw[ha]at hb;have hp:b=p.block:=by simpa[zX]using hb
      have:=Own.lt h.own (by rw[ha];simp);rw[ha]at this;rw[hp];exact this
   ·obtain⟨k,hk,hb⟩:=J3 hb
    exact ih k hk (h.dm k hk) b hb
theorem bz.kept{w w':World}{B:Nat}{r:Option Nat}(hg:w.grownBy w' r): ∀{x:Nd},bz w B x->(∀b∈gA x,some b≠r)->bz w' B x:=by
 intro x
 induction x using Nd.ind with
 | h x ih=>
   intro h hb;refine⟨x,h.loc,h.few,Own.kept h.own hg ?_,fun k hk=>ih k hk (h.dm k hk) fun b hb'=>hb b ?_⟩
   ·cases ha:x.a with
    |none=>exact .inl rfl
    |some p=>exact .inr (hb _ (by rw[zZ,ha];simp[zX,bk]))
   ·rw[zZ,anu];exact .inr (Jn hk hb')
theorem bz.keep{w w':World}{B:Nat}(hb:Below w.heap.size w w'): ∀{x:Nd},bz w B x->bz w' B x:=by
 intro x
 induction x using Nd.ind with
 |h x ih=>intro h;exact⟨x,h.loc,h.few,Own.below h.own hb,fun k hk=>ih k hk (h.dm k hk)⟩
theorem bz.mono{w:World}{B B':Nat}(hB:B'<=B): ∀{x:Nd},bz w B x->bz w B' x:=by
 intro x
 induction x using Nd.ind with
 |h x ih=>intro h;exact⟨x,h.loc,h.few,Own.mono h.own hB,fun k hk=>ih k hk (h.dm k hk)⟩
theorem bz.st{w w':World}{B rb:Nat}{x:Nd}(h:bz w B x)(hs:St w w' rb)(hr:rb<B):bz w' B x:=
 bz.kept hs.grown h fun b hb e=>by
  have:=(h.lt b hb).1;simp at e;omega
theorem nD.els{w:World}{B n c:Nat}{a:Option Addr}{l:List Nd}(h:nD w B a n c l)(hl:l.length<=1000000):bf cN w a l:=by
 refine⟨Own.row h,?_⟩;omega
theorem bz.vO{w:World}{B:Nat}: ∀{x:Nd},bz w B x->cH w x:=by
 intro x
 induction x using Nd.ind with
 | h x ih=>
   intro h;exact⟨x,by have:=h.loc;omega,nD.els h.own h.few,h.own.cap.1,fun k hk=>ih k hk (h.dm k hk)⟩
structure fK(w:World)(B:Nat)(a:Option Addr)(c:Nat)(l:List Nd):Prop where
 own:nD w B a l.length c l
 kids: ∀k∈l,bz w B k
 nd:(bk a::kI l).Nodup
 ne:a≠none
def VN(B:Nat)(x:Nd)(e:Ending)(w:World):Prop:= ∃y,aL y=x/\e= .returned (vN y)/\bz w B y/\(gA y).Nodup
section
variable {w w1 w2:World} {B rb:Nat} {a a':Option Addr} {c c':Nat} {l:List Nd} {x:Nd}
theorem fK.lt(h:fK w B a c l):B<=bk a/\bk a<w.heap.size:=Own.lt h.own h.ne
theorem fK.all(h:fK w B a c l): ∀b∈kI l,B<=b/\b<w.heap.size:=fun b hb=>by
 obtain⟨k,hk,h2⟩:=J3 hb;exact(h.kids k hk).lt b h2
theorem fK.below(h:fK w B a c l)(hb:Below w.heap.size w w1):fK w1 B a c l:=
 ⟨Own.below h.own hb,fun k hk=>(h.kids k hk).keep hb,h.nd,h.ne⟩
theorem fK.st(h:fK w B a c l)(hs:St w w1 rb)(hr:rb<B):fK w1 B a c l:=by
 refine⟨Own.kept h.own hs.grown (.inr ?_),fun k hk=>(h.kids k hk).st hs hr,h.nd,h.ne⟩;have:=h.lt.1;simp;omega
theorem fK.mono{B':Nat}(h:fK w B a c l)(hB:B'<=B):fK w B' a c l:=
 ⟨Own.mono h.own hB,fun k hk=>(h.kids k hk).mono hB,h.nd,h.ne⟩
theorem fK.one(ho:bz w B x)(hn:(gA x).Nodup)(hB:B<=w.heap.size):fK (w.alloc (aS x)) B (aos ⟨w.heap.size,0,none⟩) 1 [x]:=by
 refine⟨Own.mono (Own.aep w x) hB,fun k hk=>?_,?_,by simp⟩
 ·rw[anw.1 hk];exact ho.keep (al _ _)
 ·rw[GL,aoC]
  refine⟨fun hb=>?_,hn⟩;have:=(ho.lt _ hb).2;simp only[fk]at this;omega
theorem fK.app(h:fK w B a c l)(hB:B<=w.heap.size)(hs:St w w1 rb)(hr:rb<B)(ho:bz w1 w.heap.size x)(hn:(gA x).Nodup)(hO:nD w2 B a' (l++[x]).length c' (l++[x]))(hg:kG w1 w2 a c a' c')(ha':a'≠none):fK w2 B a' c' (l++[x])/\St w1 w2 (bk a):=by
 have h1:=h.st hs hr;have hlt:=h.lt;have hsz:=hs.grown.size
 obtain⟨p,hp⟩: ∃p,a=aos p:=by
  cases a with
  |none=>exact absurd rfl h.ne
  |some p=>exact⟨p,rfl⟩
 have hgr:w1.grownBy w2 (aos (bk a)):=by
  have:=hg.step.grown;rw[hp]at this⊢;exact this
 have hnd:=h.nd;rw[aoC]at hnd;refine⟨⟨hO,fun k hk=>?_,?_,ha'⟩,⟨by simpa using hgr,.inl rfl⟩⟩
 ·rcases anu.1 hk with hk|hk
  ·refine(h1.kids k hk).kept hgr fun b hb e=>?_
   simp at e;subst e;exact hnd.1 (Jn hk hb)
  ·rw[anw.1 hk]
   refine(ho.mono hB).kept hgr fun b hb e=>?_
   simp at e;subst e;have:=(ho.lt _ hb).1;omega
 ·rw[Nw,GL,aoC,List.nodup_append]
  refine⟨fun hb=>?_,hnd.2,hn,fun b1 dM b2 dH e=>?_⟩
  ·rcases hg with⟨rfl,-, -⟩|⟨hge, -⟩
   ·rcases anu.1 hb with hb|hb
    ·exact hnd.1 hb
    ·have:=(ho.lt _ hb).1;omega
   ·rcases anu.1 hb with hb|hb
    ·have:=(h.all _ hb).2;omega
    ·have:=(ho.lt _ hb).2;omega
  ·have h3:=(h.all _ dM).2
   have h4:=(ho.lt _ dH).1;omega
theorem fK.node(h:fK w B a c l)(k:Int)(t:Th)(v:Int)(ht:t.loc.length<=262144)(hl:l.length<=1000000):bz w B (.mk k t v a c l)/\(gA (.mk k t v a c l)).Nodup:=by
 refine⟨⟨_,ht,hl,h.own,h.kids⟩,?_⟩;rw[zZ];have:=h.nd;cases a with
 |none=>exact absurd rfl h.ne
 |some p=>exact this
theorem bz.leaf(w:World)(B:Nat)(k:Int)(t:Th)(v:Int)(ht:t.loc.length<=262144):bz w B (.mk k t v none 0 [])/\(gA (.mk k t v none 0 [])).Nodup:=
 ⟨⟨_,ht,by simp[Nd.kids],Own.nil _ _ _ _,fun k hk=>absurd hk (by simp[Nd.kids])⟩,by rw[zZ];simp[zX,Nd.a,Nd.kids,Dm]⟩
theorem fK.VJ(h:fK w B a c [x]):bz w B x/\(gA x).Nodup:=by
 refine⟨h.kids x (by simp),?_⟩;have:=h.nd;rw[GL,aoC]at this;exact this.2
end
end Go.Proofs.YtkbbgjloifmmbaaGreatDoor
namespace Go.Proofs.YtkbbgjloifmmbaaGreatDoor
open _root_.Go.Proofs.Tryz
open _root_.List renaming mem_append->anu,getElem?_eq_getElem->amK,takeWhile_append_dropWhile->anL,nodup_cons->aoC,dropWhile_append_of_pos->aoD,length_append->aoE,takeWhile_cons_of_pos->aoF,dropWhile_cons_of_pos->aoG,dropWhile_suffix->aoI,mem_singleton->anw,all_takeWhile->aoa,all_eq_true->anq
open _root_.Go.Lib renaming indexByte->aoB
open _root_.Option renaming some->aos
open _root_.Nat renaming le_refl->amS
open _root_.Go.Utf8 renaming valid->aoH
theorem Jp(c:UInt8): ∀l:Tx,(c∉l->aoB l c= -1)/\(c∈l->aoB l c=(l.takeWhile (· != c)).length)
 |[]=>⟨fun _=>rfl,fun h=>by cases h⟩
 | d::l=>by
   obtain⟨h1,h2⟩:=Jp c l
   by_cases e:d=c
   ·subst e
    exact⟨fun h=>absurd (by simp) h,fun _=>by simp[aoB]⟩
   ·have e':(d==c)=false:=by simpa using e
    have e2:(d != c)=true:=by simpa using e
    refine⟨fun h=>?_,fun h=>?_⟩
    ·have:=h1 (fun m=>h (by simp[m]))
     rw[aoB,e',this];rfl
    ·have hm:c∈l:=by rcases List.mem_cons.1 h with rfl|h;exact absurd rfl e;exact h
     have:=h2 hm;rw[aoB,e',this,aoF (p:=fun x=>x != c) e2];simp
theorem ai5(r:Tx):aZ r=r.drop ((r.takeWhile (· != 10)).length+1):=by
 unfold aZ;rw[<-List.drop_drop]
 congr 1
 have: ∀l:Tx,l.drop (l.takeWhile (· != 10)).length=l.dropWhile (· != 10):=by
  intro l
  induction l with
  |nil=>rfl
  | cons c l ih=>
    by_cases e:c=10
    ·subst e;simp
    ·have e2:(c != 10)=true:=by simpa using e
     rw[aoF (p:=fun x=>x != 10) e2,aoG (p:=fun x=>x != 10) e2];exact ih
 exact(this r).symm
theorem aa3(r:Tx):r.dropWhile (· != 10)=[]\/r.dropWhile (· != 10)=10::aZ r:=by
 unfold aZ;cases h:r.dropWhile (· != 10)with
 |nil=>exact .inl rfl
 | cons c m=>
   have:=js (l:=r) (c:=c) (p:=(· != 10)) (by rw[h];rfl);have:c=10:=by simpa using this
   subst this;exact .inr rfl
theorem aek(r:Tx):(aq (r.takeWhile (· != 10))=[]->aq (aZ r)=aq r)/\
 (aq (r.takeWhile (· != 10))≠[]->aq r≠[]/\(aq r).takeWhile (· != 10)=aq (r.takeWhile (· != 10))/\aZ (aq r)=aZ r/\(aq r).length+((r.takeWhile (· != 10)).length-(aq (r.takeWhile (· != 10))).length)=r.length):=by
 have hr:r.takeWhile (· != 10)++r.dropWhile (· != 10)=r:=anL
 have hn: ∀c∈aq (r.takeWhile (· != 10)),(c != 10)=true:=fun c hc=>by
  have:=(aoI _).subset hc;exact anq.1 (aoa (p:=(· != 10)) (l:=r)) c this
 have hd:=aa3 r;generalize r.takeWhile (· != 10)=tw at*
 constructor
 ·intro h
  have hb: ∀c∈tw,aj c=true:=rM h
  conv=>rhs;rw[<-hr]
  unfold aq;rw[aoD hb];rcases hd with e|e
  ·have:aZ r=[]:=by unfold aZ;rw[e];rfl
   rw[e,this]
  ·rw[e,aoG (by decide)]
 ·intro h
  have e1:aq r=aq tw++r.dropWhile (· != 10):=by
   conv=>lhs;rw[<-hr]
   unfold aq at h⊢;rw[List.dropWhile_append,if_neg (by simpa using h)]
  have e2:(aq r).takeWhile (· != 10)=aq tw:=by
   rw[e1,List.takeWhile_append_of_pos hn];rcases hd with e|e
   ·rw[e];simp
   ·rw[e];simp
  have e3:(aq r).dropWhile (· != 10)=r.dropWhile (· != 10):=by
   rw[e1,aoD hn];rcases hd with e|e
   ·rw[e];rfl
   ·rw[e,List.dropWhile_cons_of_neg (by decide)]
  refine⟨by rw[e1];simp[h],e2,by unfold aZ;rw[e3],?_⟩;have h1:=(aoI (l:=tw) aj).length_le;have h2:=congrArg List.length hr;rw[e1];unfold aq at h1⊢;simp only[aoE]at h2⊢;omega
theorem akZ(tw:Tx): ∃b,(∀c∈b,aj c=true)/\tw=b++aq tw/\b.length=tw.length-(aq tw).length:=by
 refine⟨tw.takeWhile aj,fun c hc=>anq.1 (aoa (p:=aj) (l:=tw)) c hc,(anL ..).symm,?_⟩;have:=congrArg List.length (anL (p:=aj) (l:=tw));unfold aq;rw[aoE]at this;omega
end Go.Proofs.YtkbbgjloifmmbaaGreatDoor
namespace Go.Proofs.YtkbbgjloifmmbaaGreatDoor
open _root_.Go.Proofs.Tryz
open _root_.List renaming mem_append->anu,getElem?_eq_getElem->amK,takeWhile_append_dropWhile->anL,nodup_cons->aoC,dropWhile_append_of_pos->aoD,length_append->aoE,takeWhile_cons_of_pos->aoF,dropWhile_cons_of_pos->aoG,dropWhile_suffix->aoI,mem_singleton->anw,all_takeWhile->aoa,all_eq_true->anq
open _root_.Go.Lib renaming indexByte->aoB
open _root_.Option renaming some->aos
open _root_.Nat renaming le_refl->amS
open _root_.Go.Utf8 renaming valid->aoH
open Go.RowKit Go.Sort
abbrev wm(s:Tx)(k:Nat)(t:ak):List Value:=.string (tx s):: .int .i64 k::cT t
structure bQ(w1 w:World)(s:Tx)(k:Nat)(t:ak):Prop where
 own:Own w w1.heap.size 68 14 (aos ⟨w1.heap.size,0,none⟩) 1 1 (wm s k t)
 bG:Below w1.heap.size w1 w
 gl:Gl w1
 sl:s.length<=262144
 le:k<=s.length
section
variable {w1 w:World} {s:Tx} {k:Nat} {t:ak}
theorem bQ.bx(h:bQ w1 w s k t):aG w w1.heap.size (wm s k t):=by
 refine⟨(Own.lt h.own (by simp)).2,fun j hj=>?_⟩;have:=(Own.row h.own).cell j hj;simpa using this
theorem bQ.gh(h:bQ w1 w s k t)(j:Nat):w.frozen? ⟨w1.heap.size,j,none⟩=false:=by
 have:=Own.frozen h.own (by simp) j;simpa using this
theorem bQ.below{w':World}(h:bQ w1 w s k t)(hb:Below w.heap.size w w'):bQ w1 w' s k t:=
 ⟨Own.below h.own hb,h.bG.trans (hb.mono h.bG.size),h.gl,h.sl,h.le⟩
theorem bQ.kept{w':World}{r:Option Nat}(h:bQ w1 w s k t)(hg:w.grownBy w' r)(hr: ∀b,r=aos b->w1.heap.size<b):bQ w1 w' s k t:=by
 refine⟨Own.kept h.own hg (.inr ?_),h.bG.grown hg h.bG.size (fun b hb=>Nat.le_of_lt (hr b hb)),h.gl,h.sl,h.le⟩;cases r with
 |none=>simp
 |some b=>have:=hr b rfl;simp;omega
theorem bQ.g(h:bQ w1 w s k t):Gl w:=h.gl.below h.bG
theorem bQ.lt(h:bQ w1 w s k t):w1.heap.size<w.heap.size:=(Own.lt h.own (by simp)).2
theorem bQ.put(h:bQ w1 w s k t)(j:Nat)(v:Value){k':Nat}{t':ak}(e:(wm s k t).set j v=wm s k' t')(hk:k'<=s.length):bQ w1 (w.setCell ⟨w1.heap.size,j,none⟩ v) s k' t'/\St w (w.setCell ⟨w1.heap.size,j,none⟩ v) w1.heap.size:=by
 obtain⟨o,st⟩:=Own.set h.own (by simp) j v;simp only[fk,gb,Nat.zero_add]at o st;rw[e]at o;exact⟨⟨o,h.bG.setCell (amS _) _,h.gl,h.sl,hk⟩,st⟩
end
def oM(er:Int)(k:Nat):Ending:=.panicked [{ v:=.iface 65 (.agg #[.int .i64 er,.int .i64 k]),recovered:=false }]
def sU(N:Nat)(r:Tx)(e:Ending):Prop:=
 (aq r=[]/\e= .returned (.tuple #[.string (tx []),.int .i64 N,.int .i64 N,.bool false]))\/
 ∃b,aq r≠[]/\(∀c∈b,aj c=true)/\(10:UInt8)∉b/\(b.length<=bO N (aq r)/\b.length+(aq r).length<=r.length)/\e= .returned (.tuple #[.string (tx (b++(aq r).takeWhile (· != 10))),.int .i64 (bO N (aq r):Nat),.int .i64 (N-(aZ (aq r)).length:Nat),.bool true])
end Go.Proofs.YtkbbgjloifmmbaaGreatDoor
namespace Go.Proofs.YtkbbgjloifmmbaaGreatDoor
open _root_.Go.Proofs.Tryz
open _root_.List renaming mem_append->anu,getElem?_eq_getElem->amK,takeWhile_append_dropWhile->anL,nodup_cons->aoC,dropWhile_append_of_pos->aoD,length_append->aoE,takeWhile_cons_of_pos->aoF,dropWhile_cons_of_pos->aoG,dropWhile_suffix->aoI,mem_singleton->anw,all_takeWhile->aoa,all_eq_true->anq
open _root_.Go.Lib renaming indexByte->aoB
open _root_.Option renaming some->aos
open _root_.Nat renaming le_refl->amS
open _root_.Go.Utf8 renaming valid->aoH
open Go.RowKit
theorem ajy(r:Nat)(h:r<128):decide ((0:Int)<=aoB [32,9,10,13] (r:Int).toNat.toUInt8)=lX r:=by
 have k: ∀n:Fin 128,decide ((0:Int)<=aoB [32,9,10,13] ((n.val:Int)).toNat.toUInt8)=lX n.val:=by decide+kernel
 exact k ⟨r,h⟩
theorem ajx(r:Nat)(h:128<=r):lX r=false:=by unfold lX;simp;omega
theorem YV: ∀i:Fin 4,((tx [32,9,10,13])[i.val]'(i.isLt)).toNat<128:=by decide+kernel
theorem adu(w:World)(s:ByteArray)(p:Nat):Below w.heap.size w (w.iter s p):=by
 unfold World.iter;exact al _ _
theorem acU(w:World):Calls prog 173 #[.string (tx [32,9,10,13]),.int .i32 65533] w fun e w'=>e= .returned (.int .i64 (-1))/\Below w.heap.size w w':=by
 obtain⟨s,hs⟩: ∃s,tx [32,9,10,13]=s:=⟨_,rfl⟩;have hsz:s.size=4:=by rw[<-hs];rfl
 have HA:=hid (show ∀i (h:i<s.size),(s[i]'h).toNat<128 from by
  subst hs;exact fun i h=>YV ⟨i,by rw[hsz]at h;exact h⟩)
 rw[hs];clear hs;go_in;go_wp2_with fail
 go_loopg [5,6] 4 (fun g _ _ wx=> ∃i:Nat,i+g=4/\wx=w.iter s i)
 case atStart=>exact⟨0,by omega,rfl⟩
 case round=>
  obtain⟨i,hig,rfl⟩:=hrel;cases gk with
  | zero=>
    obtain rfl:i=4:=by omega
    have r8:=fun ty=>run_next_end (P:=prog) w s 4 ty (by omega)
    go_wp2_with fail;go_ret;exact⟨rfl,adu w s 4⟩
  | succ g=>
    have hi:i<s.size:=by omega
    obtain⟨x,hx⟩: ∃x:UInt8,s[i]'hi=x:=⟨_,rfl⟩;have hx128:x.toNat<128:=by rw[<-hx];exact HA.out i hi
    have r8:=fun ty=>run_next_ascii (P:=prog) w s i ty hi (by rw[hx];exact hx128)
    rw[hx]at r8;have z:((x.toNat:Int)==65533)=false:=by simp;omega
    clear hx;go_wp2_with fail
    go_roundg g
    case measure=>omega
    case rel=>exact⟨i+1,by omega,rfl⟩
theorem FE{r:Nat}{b:Bool}(h:b=decide (((0:Int)<=(r:Int)/\(r:Int)<55296)\/(57343<(r:Int)/\(r:Int)<=1114111))):aoH (r:Int)=b:=by rw[validRune_eq,h];rfl
theorem Ws(r:Nat)(w:World):Calls prog 246 #[.int .i32 r] w fun e w'=>e= .returned (.bool (aoH r))/\w=w':=by
 have hp:r<55296\/(55296<=r/\r<=57343)\/(57343<r/\r<=1114111)\/1114111<r:=by omega
 rcases hp with h|⟨h,h'⟩|⟨h,h'⟩|h
 ·rw[FE (b:=true) (by simp;omega)]
  have z1:decide ((0:Int)<=(r:Int))=true:=by simp
  have z2:decide ((r:Int)<55296)=true:=by simp;omega
  clear h;go_in;go_wp2_with fail;go_ret;exact⟨rfl,rfl⟩
 ·rw[FE (b:=false) (by simp;omega)]
  have z1:decide ((0:Int)<=(r:Int))=true:=by simp
  have z2:decide ((r:Int)<55296)=false:=by simp;omega
  have z3:decide ((57343:Int)<(r:Int))=false:=by simp;omega
  clear h h';go_in;go_wp2_with fail;go_ret;exact⟨rfl,rfl⟩
 ·rw[FE (b:=true) (by simp;omega)]
  have z1:decide ((0:Int)<=(r:Int))=true:=by simp
  have z2:decide ((r:Int)<55296)=false:=by simp;omega
  have z3:decide ((57343:Int)<(r:Int))=true:=by simp;omega
  have z4:decide ((r:Int)<=1114111)=true:=by simp;omega
  clear h h';go_in;go_wp2_with fail;go_ret;exact⟨rfl,rfl⟩
 ·rw[FE (b:=false) (by simp;omega)]
  have z1:decide ((0:Int)<=(r:Int))=true:=by simp
  have z2:decide ((r:Int)<55296)=false:=by simp;omega
  have z3:decide ((57343:Int)<(r:Int))=true:=by simp;omega
  have z4:decide ((r:Int)<=1114111)=false:=by simp;omega
  clear h;go_in;go_wp2_with fail;go_ret;exact⟨rfl,rfl⟩
theorem acT(r:Nat)(h:128<=r)(hne:r≠65533)(hv:aoH r=false)(w:World):Calls prog 173 #[.string (tx [32,9,10,13]),.int .i32 r] w fun e w'=>e= .returned (.int .i64 (-1))/\Below w.heap.size w w':=by
 have z1:decide ((r:Int)<128)=false:=by simp;omega
 have z2:((r:Int)==65533)=false:=by simp;omega
 have HV:=hid hv;clear hv h hne;go_in
 go_wp2_with (go_at_call 246;refine(Ws r _).mono ?_;rintro e w' ⟨rfl,rfl⟩;rw[HV.out])
 go_wp2_with fail;go_ret;exact⟨rfl,Below.refl _ _⟩
theorem Jq(l:Tx)(x:UInt8)(w:World):Calls prog 78 #[.string (tx l),.int .u8 x.toNat] w fun e w'=>e= .returned (.int .i64 (aoB l x))/\w=w':=by
 refine(Any.strings_IndexByte Tryz.RS (tx l) x.toNat w).mono fun e w' hh=>⟨?_,hh.2.symm⟩
 have:=hh.1;rw[gO]at this;rw[this];simp
theorem indexByte_none(l:Tx)(x:UInt8)(h:x∉l)(w:World):Calls prog 78 #[.string (tx l),.int .u8 x.toNat] w fun e w'=>e= .returned (.int .i64 (-1))/\w=w':=by
 have:=Jq l x w
 rwa[Ej x l h]at this
theorem acS(r:Nat)(k:Nat)(hk:k<4)(h:128<=r)(hne:r≠65533)(hv:aoH r=true)(l:Tx)(x:UInt8)(hl:Utf8.encode (r:Int)=tx l)(cV:l.length=k+1)(hx:l[k]? =some x)(hx2:128<=x.toNat)(w:World):Calls prog 173 #[.string (tx [32,9,10,13]),.int .i32 r] w fun e w'=>e= .returned (.int .i64 (-1))/\Below w.heap.size w w':=by
 have z1:decide ((r:Int)<128)=false:=by simp;omega
 have z2:((r:Int)==65533)=false:=by simp;omega
 have HV:=hid hv;have nV:(tx l).size=k+1:=by rw[aP,cV]
 have ix:=iV l k x hx;obtain⟨y,hy⟩: ∃y,([32,9,10,13]:Tx)[k]? =some y:=⟨_,amK (by simpa using hk)⟩;have s1:=iV [32,9,10,13] k y hy;have sf:=wB [32,9,10,13] (k+1) (by simp;omega);rw[show((k+1:Nat):Int)=(k:Int)+1 by omega]at sf;have I4: ∀b∈([32,9,10,13]:Tx),b.toNat<128:=by decide
 have zz:((y.toNat:Int) != (x.toNat:Int))=true:=by have:=I4 y (List.mem_of_getElem? hy);simp;omega
 have IB:=hid (fun w=>indexByte_none (([32,9,10,13]:Tx).drop (k+1)) x (fun hm=>by have:=I4 x (List.mem_of_mem_drop hm);omega) w);generalize ([32,9,10,13]:Tx).drop (k+1)=rest at*;obtain⟨s,hs⟩: ∃s,tx [32,9,10,13]=s:=⟨_,rfl⟩;have h4:s.size=4:=by rw[<-hs];rfl
 rw[hs]at s1 sf⊢
 have sf2: ∀w,(Instr.sliceAt 9 (.string s) (some (.int .i64 (IntKind.i64.wrap ((k:Int)+1)))) none none).run prog w= .ok (.string (tx rest)) w:=by
  rw[wrap_small _ (by omega) (by omega)];exact sf
 have zk:decide ((k:Int)<4)=true:=by simp;omega
 clear hv h hne hx cV hx2 I4 hy hs;go_in
 go_wp2_with (go_at_call 246;refine(Ws r _).mono ?_;rintro e w' ⟨rfl,rfl⟩;rw[HV.out])
 refine wp_scope_straight ?_;go_wp2_with fail
 go_loop [9] (fun i=>i= .int .i64 k) (fun i=>0)
 case atStart=>rfl
 case round=>
  subst hrel;go_wp2_with fail;refine wp_scope_straight ?_;go_wp2_with fail
  go_big_region
  all_goals go_wp2_with fail
  all_goals go_region_with (go_at_call 78;refine(IB.out _).mono ?_;rintro e w' ⟨rfl,rfl⟩)
  all_goals go_wp2_with fail
  all_goals simp+zetaDelta only[Exit.noGoto,Exit.inBlock,Exit.then]
  all_goals go_ret
  all_goals exact⟨rfl,aN⟩
theorem acV(r:Nat)(h:128<=r)(w:World):Calls prog 173 #[.string (tx [32,9,10,13]),.int .i32 r] w fun e w'=>e= .returned (.int .i64 (-1))/\Below w.heap.size w w':=by
 by_cases hne:r=65533
 ·subst hne;exact acU w
 ·cases hv:aoH (r:Int)with
  |false=>exact acT r h hne hv w
  | true=>
    obtain⟨f1,f2,f3⟩:=encode_facts (r:Int) hv (by omega);obtain⟨l,hl⟩:=Wl (Utf8.encode (r:Int));have hsz:(Utf8.encode (r:Int)).size=l.length:=by rw[hl,aP]
    have hlt:l.length-1<l.length:=by omega
    refine acS r (l.length-1) (by omega) h hne hv l l[l.length-1] hl (by omega) (amK hlt) ?_ w;have:=f3 (by omega);simp only[hl,aP]at this;exact this
theorem Hr(r:Nat)(h:r<=1114111)(w:World):Calls prog 95 #[.string (tx [32,9,10,13]),.int .i32 r] w fun e w'=>e= .returned (.bool (lX r))/\Below w.heap.size w w':=by
 by_cases h1:r<128
 ·refine(Any.strings_ContainsRune_ascii Tryz.adP (tx [32,9,10,13]) (r:Int) w (by omega) (by omega)).mono fun e w' hh=>?_
  obtain⟨rfl,rfl⟩:=hh;rw[gO,ajy r h1];exact⟨rfl,Below.refl _ _⟩
 ·rw[ajx r (by omega)]
  have IR:=hid (fun w=>acV r (by omega) w);clear h h1;go_in;go_wp2_with fail;refine(IR.out _).mono ?_;rintro e w1 ⟨rfl,E⟩;go_wp2_with fail;go_ret;exact⟨rfl,E⟩
theorem aie(r:Nat)(h:r<=1114111)(w:World):Calls prog 148 #[.int .i32 r] w fun e w'=>e= .returned (.bool (lX r))/\Below w.heap.size w w':=by
 have C:=hid (fun w=>Hr r h w);generalize lX r=b at*;clear h;go_in;go_wp2_with fail;refine(C.out _).mono ?_;rintro e w1 ⟨rfl,E⟩;go_wp2_with fail;go_ret;exact⟨rfl,E⟩
theorem Ig: ∀(l u:Tx),(bM u l).length<=l.length+1
 |[],u=>by unfold bM fB;split<;>simp
 | c::r,u=>by
   cases hb:aj c with
   | true=>
     have:=Ig r [];rw[rO _ _ hb,aoE];have:(fB u).length<=1:=by unfold fB;split<;>simp
     simp;omega
   |false=>have:=Ig r (u++[c]);rw[xO _ _ hb];simp;omega
theorem abA(l:Tx):(bM [] l).length<=l.length+1:=Ig l []
end Go.Proofs.YtkbbgjloifmmbaaGreatDoor
