/- What ReadBlanksP leans on, part 1. -/
import Derived.Test.YtkbbgjloifmmbaaGreatDoorPc35
set_option linter.unusedVariables false
set_option maxRecDepth 100000
set_option maxHeartbeats 6400000
open _root_.Go.Proofs.Tryz
open _root_.List renaming getElem?_eq_getElem->am9,append_nil->aoQ,nil_append->anu,length_append->aoW,cons_append->aod,length_take->ao2,drop_append_of_le_length->aoJ,eq_nil_of_length_eq_zero->ane,dropWhile_append_of_pos->apu,append_assoc->anZ,getElem?_eq_some_iff->anx,drop_eq_getElem_cons->aoI,length_drop->aoN,drop_eq_nil_of_le->anj,takeWhile_prefix->apv,dropWhile_suffix->apr,mem_of_getLast?->aqZ,mem_singleton->aoi,length_map->anL,map_append->ao3
open _root_.Nat renaming le_refl->anb,mod_two_eq_zero_or_one->aqY
open _root_.Classical renaming byContradiction->apY
open _root_.Option.some renaming inj->an4
open _root_.Go.Op renaming stringOp->an9
open _root_.Go.RowKit.Below renaming refl->anM
open _root_.Go.Instr renaming sliceAt->anh
namespace Go.Proofs.YtkbbgjloifmmbaaGreatDoor
open Go.ChangeShapes Go.WideShapes Go.ChangeAt Go.RowKit
variable{af e:Int}{L:List Tx}{B N N' d f k p:Nat}{a:Option Addr}{t:aG}{A r r' r1 s w:Tx}{b c:UInt8}
theorem agr{H:Type}{enc:TypeId × Value->H}{P:Program}{W:World}{t e:TypeId}{len cap:Nat}{d:DataW H}{p:List MemPlace}
 (ht:P.underlying t=some (.slice e)) (he:P.underlying e=some (.int .i64)) (hc:P.cellsOf e=1) (hb:P.bytesOf e=8)
 (h:DataW.Trod enc P W 0 (fun _=>true) true t (.slice a len cap) d p)
 {ts:List TypeId} {ds:List (DataW H)} (hsz:(DataW.weightsEach P ts ds).all (· <=reachBytes)=true) (j:Nat) (htj:ts[j]? =some t) (hdj:ds[j]? =some d):
 ∃l:List Int,len=l.length/\gU W a l/\l.length<=cap/\l.length*8<=140737488351232/\ ∀x∈l, -9223372036854775808<=x/\x<=9223372036854775807:=by
 obtain⟨fuel,hf⟩:=h;rcases open_ints ht he hc hf with⟨hcs,_⟩|⟨x,l,c,zs,hcs,_,hl,hm,hz,hx,hcell,hwz⟩
 ·simp[Value.cells]at hcs
  obtain⟨rfl,rfl,rfl⟩:=hcs;exact⟨[],rfl,gU.nil _ _,by simp,by simp,by simp⟩
 simp[Value.cells]at hcs
 obtain⟨rfl,rfl,rfl⟩:=hcs;have hzl:zs.length=cap:=by simpa using hz
 have hlen:(zs.take len).length=len:=ah
 have adQ:len*8<=140737488351232:=by
  simp only[Prod.mk.injEq]at hx;obtain⟨rfl,_⟩:=hx;have:=sized_slice hsz htj hdj ht;rw[hb]at this;simp only[lits,anL,ao2,aoN,reachBytes]at this;omega
 refine⟨zs.take len,hlen.symm,⟨?_,by rw[hlen];omega⟩,by rw[hlen];exact hl,by rw[hlen];exact adQ,?_⟩
 ·have key:Row W (some x) (ints zs):=by
   by_cases h0:zs=[]
   ·subst h0;exact Row.nil _ _
   have hp:=List.length_pos_iff.2 h0
   obtain⟨b,off,spot⟩:=x;have hspot:spot=none:=by simpa[Addr.add]using World.cell?_spot (hcell 0 hp)
   subst hspot;refine⟨fun _=>rfl,fun i hi=>?_⟩;have hi':i<zs.length:=by simpa using hi
   have:=hcell i hi';rw[Addr.add_lit]at this;simp only[gv,gX];rw[this];simp[ints,hi',List.getD_eq_getElem?_getD]
  have:=key.take len;simpa[ints,List.map_take]using this
 intro n hn
 have:=hwz n (List.mem_of_mem_take hn);simpa[Lit.wf,IntKind.min,IntKind.max,IntKind.signed,IntKind.bits]using this
def Cut(A r:Tx):Prop:= ∀c,r.head?=some c->cP c=false/\aD c=false/\((c≠47/\c≠92)\/(A.getLast?≠some 47/\A.getLast?≠some 92))
theorem Cut.tail{x:UInt8}(h:Cut (x::A) r)(k:Nat):Cut ((x::A).drop k) r:=fun d hd=>by
 obtain⟨a,b,e⟩:=h d hd;refine⟨a,b,e.imp id fun e=>?_⟩;rw[List.getLast?_drop];split
 ·exact⟨by simp,by simp⟩
 exact e
theorem Mm: ∀(n:Nat) (A r:Tx),A.length<=n->Cut A r->aO (A++r)=aO A++aO r
 |_,A,[],_,_=>by rw[aoQ,yC,aoQ]
 |_,[],r,_,_=>by rw[anu,yC,anu]
 |0,_::_,_,hn,_=>absurd hn (by simp)
 | n+1,x::A,c::B,hn,h=>by
   obtain⟨h1,h2,h3⟩:=h c rfl;simp only[List.length_cons]at hn;cases hb:aq x with
   | true=>
     rw[aod,qy _ hb,qy _ hb,Mm n A (c::B) (by omega) (by simpa using h.tail 1)]
   | false=>
     have hp:=nJ x A;have hle:=tC x A
     have e:cy (x::(A++c::B))=cy (x::A):=by
      rw[kD,kD,wV h1,wV h2];cases A with
      | nil=>
        rcases h3 with⟨h3,h4⟩|⟨h3,h4⟩
        ·simp[h2,h3,h4]
        simp at h3 h4;simp[h2,h3,h4]
      |cons y A=>simp
     rw[aod,oC _ hb,oC _ hb,e,<-aod,List.take_append_of_le_length ah,aoJ ah,Mm n _ (c::B) ah (h.tail _),aod]
theorem alx(h:zB c=false):cP c=false/\aD c=false:=by
 have k:=tP (p:=fun c=>zB c||(!cP c&& !aD c)) dx c;rw[h]at k;simpa using k
theorem Cut.of(hA: ∀b∈A,zB b=true)(hr:F0 r):Cut A r:=fun c hc=>by
 obtain⟨a,b⟩:=alx (hr c (by rw[hc];exact rfl));refine⟨a,b,.inr ⟨fun e=>?_,fun e=>?_⟩⟩
 ·have:=hA _ (aqZ e);exact absurd this (by decide)
 have:=hA _ (aqZ e);exact absurd this (by decide)
theorem Pd.lex(h:Pd s w): ∀A:Tx,aO (A++s)=aO (A++w):=by
 have cut: ∀(A a s:Tx),Bl a->(10:UInt8)∈a->aO (A++(a++s))=aO A++aO s:=fun A a s ha h1=>by
  cases a with
  |nil=>cases h1
  | cons c a=>
    have hc:=ha c (by simp)
    have hno:cP c=false/\aD c=false/\c≠47/\c≠92:=by
     have k:=tP (p:=fun c=> !aq c||(!cP c&& !aD c&&c != 47&&c != 92)) dx c;rw[hc]at k;simpa[and_assoc]using k
    rw[Mm _ A _ (anb _) (fun d hd=>by
     have:d=c:=by simpa using hd.symm
     subst this;exact⟨hno.1,hno.2.1,.inl hno.2.2⟩)]
    have e:aO ((c::a)++s)=aO s:=by
     have:=Ci ((c::a)++s);rw[apu ha,Ci]at this;exact this.symm
    rw[e]
 induction h with
 |fin a b ha hb=>intro A;rw[wD _ A a (anb _) ha,wD _ A b (anb _) hb]
 |sep a b ha hb h1 h2 h ih=>intro A;rw[cut A a _ ha h1,cut A b _ hb h2];have:=ih [];rw[anu,anu]at this;rw[this]
 |byte c h ih=>intro A;have:=ih (A++[c]);simpa using this
theorem Pd.aO(h:Pd s w):aO s=aO w:=h.lex []
theorem Nn{b:Tx}(h:Bl b):cr (A++b)=cr A:=by
 unfold cr;rw[List.reverse_append,apu (fun c hc=>h c (List.mem_reverse.1 hc))]
theorem ZR{a:Tx}(h:Bl a):Bl (a.takeWhile (· != c)):=fun d hd=>h d (apv _ |>.subset hd)
theorem Pd.line(h:Pd s w): ∀A:Tx,(10:UInt8)∉A->aK (A++s)=aK (A++w):=by
 have f: ∀A a:Tx,(10:UInt8)∉A->Bl a->aK (A++a)=cr A:=fun A a hA ha=>by
  unfold aK;rw[(wU a hA).1,Nn (ZR ha)]
 have g: ∀A a s:Tx,(10:UInt8)∉A->Bl a->(10:UInt8)∈a->aK (A++(a++s))=cr A:=fun A a s hA ha h1=>by
  unfold aK;rw[(wU _ hA).1,(Ow s h1).1,Nn (ZR ha)]
 induction h with
 |fin a b ha hb=>intro A hA;rw[f A a hA ha,f A b hA hb]
 |sep a b ha hb h1 h2 h ih=>intro A hA;rw[g A a _ hA ha h1,g A b _ hA hb h2]
 | @byte c s w h ih=>
   intro A hA
   by_cases e:c=10
   ·subst e
    have k: ∀s:Tx,aK (A++10::s)=cr A:=fun s=>by
     unfold aK;rw[(zH 10 s A hA).1]
    rw[k,k]
   have:=ih (A++[c]) (by
    rw[List.mem_append];rintro(h|h)
    ·exact hA h
    exact e (aoi.1 h).symm)
   simpa using this
theorem P0.line(h:P0 s w):aK (ax s)=aK (ax w):=Pd.line h [] (by simp)
inductive AA:List Tx->List Tx->Prop where
 |nil:AA [] []
 |cons {s w:Tx} {L M:List Tx} (h:Pd s w) (t:AA L M):AA (s::L) (w::M)
theorem Zk(r:Tx)(h:(b==c)=true):aH c (b::r)=[]::aH c r:=by rw[aH,if_pos h]
theorem Od{x:Tx}{t:List Tx}(h:(b==c)=false)(e:aH c r=x::t):aH c (b::r)=(b::x)::t:=by rw[aH,if_neg (by rw[h];decide),e]
theorem Oc{c:UInt8}{s x:Tx}{t:List Tx}(e:aH c s=x::t): ∀{a:Tx},c∉a->aH c (a++s)=(a++x)::t
 |[],_=>e
 | d::a,h=>by
   have hd:(d==c)=false:=by
    rw[beq_eq_false_iff_ne];rintro rfl;exact h (by simp)
   exact Od hd (Oc e (fun m=>h (by simp[m])))
theorem Pd.split(hc:aq c=false)(h:Pd s w):AA (aH c s) (aH c w):=by
 induction h with
 | fin a b ha hb=>
   rw[zh c a (ug hc ha),zh c b (ug hc hb)];exact .cons (.fin a b ha hb) .nil
 | @sep a b s w ha hb h1 h2 h ih=>
   cases e:aH c s with
   |nil=>exact absurd e (mW c s)
   | cons x t=>
     cases f:aH c w with
     |nil=>exact absurd f (mW c w)
     | cons y u=>
       rw[e,f]at ih;rw[Oc e (ug hc ha),Oc f (ug hc hb)];cases ih with
       |cons p q=>exact .cons (.sep a b ha hb h1 h2 p) q
 | @byte d s w h ih=>
   cases hd:d==c with
   |true=>rw[Zk _ hd,Zk _ hd];exact .cons .nil ih
   | false=>
     cases e:aH c s with
     |nil=>exact absurd e (mW c s)
     | cons x t=>
       cases f:aH c w with
       |nil=>exact absurd f (mW c w)
       | cons y u=>
         rw[e,f]at ih;rw[Od hd e,Od hd f];cases ih with
         |cons p q=>exact .cons (.byte d p) q
theorem adw{n:Tx}{a:Int}(h:fP N r= .ok (a,n,r1))(p:P0 r r'): ∃jB,fP N' r'= .ok (a,n,jB)/\P0 r1 jB/\jB.length<=r'.length:=by
 unfold fP at h⊢
 dsimp only at h⊢
 rw[<-p.line]
 split at h
 ·cases h
 split at h
 ·cases h
 cases h;exact⟨_,rfl,p.rest,uR _⟩
theorem acw{c:Tx}(h:eH N r= .ok (c,r1))(p:P0 r r'): ∃jB,eH N' r'= .ok (c,jB)/\P0 r1 jB/\jB.length<=r'.length:=by
 unfold eH at h⊢
 dsimp only at h⊢
 rw[<-p.line]
 split at h
 ·rename_i h0;cases h;rw[if_pos h0];exact⟨_,rfl,p,anb _⟩
 rename_i h0
 split at h
 ·cases h
 rename_i h1;cases h;rw[if_neg h0,if_neg h1];exact⟨_,rfl,p.rest,uR _⟩
theorem Hl(p:Tx):ak p=[]<->aO p=[]:=by
 constructor
 ·intro h;rw[<-uK,h,yC]
 intro h
 have hb:Bl p:=Gk h;have:=Nn (A:=[]) hb;rw[anu]at this;rw[tN,this];rfl
theorem aee{p q:Tx}{x:aL}(h:fR af p=some x)(e:aO p=aO q)(hq:q.length<=262144):fR af q=some x:=by
 have hp:p.length<=262144:=by
  refine Nat.le_of_not_lt fun hp=>?_
  unfold fR at h;rw[if_pos (.inl hp)]at h;cases h
 rw[Ce hp,e,<-Ce hq]at h;exact h
theorem agY{M:List Tx}(H:AA L M): ∀{v v':Tx} {acc l:List aL},(∀m∈M,m.length<=262144)->gF af N L v acc= .ok l->gF af N' M v' acc= .ok l:=by
 induction H with
 |nil=>intro v v' acc l _ h;exact h
 | @cons s w L M hp ht ih=>
   intro v v' acc l hm h;rw[gF]at h⊢
   by_cases e:ak s=[]
   ·rw[if_pos e]at h
    rw[if_pos ((Hl w).2 (by rw[<-hp.aO];exact(Hl s).1 e))];exact ih (fun m hm'=>hm m (by simp[hm'])) h
   rw[if_neg e]at h
   rw[if_neg (fun f=>e ((Hl s).2 (by rw[hp.aO];exact(Hl w).1 f)))];cases ei:fR af s with
   |none=>rw[ei]at h;cases h
   | some x=>
     rw[ei]at h;rw[aee ei hp.aO (hm w (by simp))];exact ih (fun m hm'=>hm m (by simp[hm'])) h
theorem aei{l:List aL}(h:eM af N r= .ok (l,r1))(p:P0 r r')(hl:r'.length<=262144): ∃jB,eM af N' r'= .ok (l,jB)/\P0 r1 jB/\jB.length<=r'.length:=by
 unfold eM at h⊢
 dsimp only at h⊢
 rcases p.cases with⟨a,b⟩|⟨c,s,w,hb,a,b,hp⟩
 ·rw[a]at h;rw[if_pos (.inl (by simp))]at h;cases h
 have hlw:w.length+1<=r'.length:=by have:=mV r';rw[b]at this;simpa using this
 rw[a]at h;rw[b]
 split at h
 ·cases h
 rename_i hc
 have hc1:c=123:=by
  refine apY fun e=>hc (.inl ?_)
  simpa using e
 subst hc1
 have hm:(125:UInt8)∈s:=by
  refine apY fun e=>hc (.inr ?_)
  rw[List.mem_cons];rintro(f|f)
  ·exact absurd f (by decide)
  exact e f
 obtain⟨k1,k2,k3⟩:=hp.cut (c:=125) (by decide);have e1: ∀s:Tx,((123::s).takeWhile (· != 125)).drop 1=s.takeWhile (· != 125):=fun s=>by rw[List.takeWhile_cons_of_pos (by decide)];rfl
 have e2: ∀s:Tx,(123::s).dropWhile (· != 125)=s.dropWhile (· != 125):=fun s=>by rw[List.dropWhile_cons_of_pos (by decide)]
 rw[if_neg (by
  rintro(f|f)
  ·exact f rfl
  exact f (List.mem_cons_of_mem _ (k1.1 hm)))]
 rw[e1,e2]at h;rw[e1,e2]
 split at h
 ·cases h
 rename_i l' hl'
 cases h;have tl:(w.takeWhile (· != 125)).length<=w.length:=(apv _).length_le;rw[agY (N':=N') (v':=(123::w).drop 1) (k2.split (c:=59) (by decide)) (fun m hm=>by have:=wQ _ _ m hm;omega) hl'];refine⟨_,rfl,k3.p0,?_⟩;have:=(apr (l:=w) (· != 125)).length_le;rw[aoN];omega
theorem JE{af:Int}{N N':Nat}: ∀{L:List Tx} {v v':Tx} {acc l:List (List ay)},dn af N L v acc= .ok l->dn af N' L v' acc= .ok l
 |[],v,v',acc,l,h=>by rw[dn]at h ⊢; exact h
 |c::L,v,v',[],l,h=>by rw[dn]at h ⊢; exact h
 | c::L,v,v',x::acc,l,h=>by
   rw[dn]at h⊢
   split at h
   ·rename_i e
    rw[if_pos e];cases f:dn af N L (v.drop (c.length+1)) acc with
    |error e=>rw[f]at h;cases h
    |ok r=>rw[f]at h;rw[JE (v':=v'.drop (c.length+1)) f];exact h
   rename_i e
   rw[if_neg e];cases g:mM af (ak c)with
   |none=>rw[g]at h;cases h
   | some i=>
     rw[g]at h
     dsimp only at h⊢
     cases f:dn af N L (v.drop (c.length+1)) acc with
     |error e=>rw[f]at h;cases h
     |ok r=>rw[f]at h;rw[JE (v':=v'.drop (c.length+1)) f];exact h
theorem YJ{u:Tx}(h:eE u=true):(bE u).length<u.length:=by
 unfold bE;cases u with
 |nil=>exact absurd h (by decide)
 | cons c u=>
   have:=(apr (l:=c::u) (· != 10)).length_le;cases e:(c::u).dropWhile (· != 10)with
   |nil=>simp
   |cons d m=>rw[e]at this;simp at this ⊢; omega
theorem Y6{af:Int}{N N':Nat}: ∀{n n':Nat} {r r':Tx} {acc l:List (List ay)} {r1:Tx},r.length<n->r'.length<n'->jC af N n r acc= .ok (l,r1)->P0 r r'-> ∃jB,jC af N' n' r' acc= .ok (l,jB)/\P0 r1 jB/\jB.length<=r'.length
 |0,_,_,_,_,_,_,h,_,_,_=>absurd h (by omega)
 |_+1,0,_,_,_,_,_,_,h,_,_=>absurd h (by omega)
 | n+1,n'+1,r,r',acc,l,r1,hn,hn',h,p=>by
   rw[jC]at h⊢
   try dsimp only at h
   try dsimp only
   have e1:eE (ax r')=eE (ax r):=by unfold eE;rw[p.line]
   have e2:fh (ax r')=fh (ax r):=by unfold fh;rw[p.line]
   rw[e1,e2]
   split at h
   ·rename_i hb;cases h;rw[if_pos hb];exact⟨_,rfl,p,anb _⟩
   rename_i hb
   rw[if_neg hb];have hb:eE (ax r)=true:=by simpa using hb
   have a:=YJ hb;have b:=YJ (e1.trans hb);have a2:=mV r;have b2:=mV r'
   split at h
   ·cases h
   rename_i hc
   rw[if_neg hc]
   split at h
   ·cases h
   rename_i l' hl'
   rw[JE (N':=N') (v':=ax r') hl'];obtain⟨jB,f1,f2,f3⟩:=Y6 (N':=N') (n':=n') (r':=bE (ax r')) (by omega) (by omega) h p.rest;exact⟨jB,f1,f2,by omega⟩
theorem ak0{l:List (List ay)}(h:eR af N r= .ok (l,r1))(p:P0 r r'): ∃jB,eR af N' r'= .ok (l,jB)/\P0 r1 jB/\jB.length<=r'.length:=by
 unfold eR at h⊢
 dsimp only at h⊢
 have e1:eE (ax r')=eE (ax r):=by unfold eE;rw[p.line]
 have e2:fh (ax r')=fh (ax r):=by unfold fh;rw[p.line]
 rw[e1,e2]
 split at h
 ·cases h
 rename_i hb
 rw[if_neg hb];have a:=uR r;have b:=uR r';obtain⟨jB,f1,f2,f3⟩:=Y6 (N':=N') (n':=r'.length+1) (r':=bE (ax r')) (by omega) (by omega) h p.rest;exact⟨jB,f1,f2,by omega⟩
theorem abR{c:Int × Nd}(h:gL af N r= .ok c)(p:P0 r r')(hl:r'.length<=262144):gL af N' r'= .ok c:=by
 unfold gL at h⊢
 dsimp only at h⊢
 cases e:cJ af (ax r)with
 |error x=>rw[e]at h;cases h
 | ok c'=>
   rw[e]at h;have:=mV r';rw[Xn e (Pd.aO p) (by omega)];exact h
theorem MX:fq s= .ok t<->s.length<=262144/\lz s.length s= .ok t/\cQ t=0:=by
 unfold fq
 by_cases hl:262144<s.length
 ·rw[if_pos hl]
  exact⟨fun h=>(by cases h),fun h=>(by omega)⟩
 rw[if_neg hl]
 cases e:lz s.length s with
 |error x=>exact⟨fun h=>(by cases h),fun h=>(by cases h.2.1)⟩
 | ok u=>
   dsimp only
   by_cases h0:cQ u=0
   ·rw[if_pos h0]
    exact⟨fun h=>(by cases h;exact⟨by omega,rfl,h0⟩),fun h=>h.2.1⟩
   rw[if_neg h0]
   exact⟨fun h=>(by cases h),fun h=>(by have:=h.2.1;cases this;exact absurd h.2.2 h0)⟩
theorem agR(h:fq s= .ok t)(p:P0 s w)(hl:w.length<=262144):fq w= .ok t:=by
 obtain⟨-, hb,h0⟩:=MX.1 h;refine MX.2 ⟨hl,?_,h0⟩;obtain⟨a,n,r1,c,r2,i,r3,l,r4,q,x,h1,h2,h3,h4,h5,rfl⟩:=Fa.1 hb;obtain⟨s1,f1,p1,l1⟩:=adw (N':=w.length) h1 p;obtain⟨s2,f2,p2,l2⟩:=acw (N':=w.length) h2 p1;obtain⟨s3,f3,p3,l3⟩:=aei (N':=w.length) h3 p2 (by omega);obtain⟨s4,f4,p4,l4⟩:=ak0 (N':=w.length) h4 p3;exact Fa.2 ⟨a,n,s1,c,s2,i,s3,l,s4,q,x,f1,f2,f3,f4,abR h5 p4 (by omega),rfl⟩
def mN(l:Tx):Tx:=if l.getLast?=some 13 then l.dropLast else l
def ja(cur:Tx)(from_:Nat):Tx->List (Tx × Nat)
 |[]=>if cur=[]then[]else[(mN cur,from_)]
 |c::r=>if c=10 then(mN cur,from_)::ja [] (from_+cur.length+1) r else ja (cur++[c]) from_ r
def tA(s:Tx):List (Tx × Nat):=ja [] 0 s
theorem Wr(l:Tx): ∃e,l=mN l++e/\Bl e:=by
 unfold mN;split
 ·rename_i h
  have h0:l≠[]:=by intro e;rw[e]at h;cases h
  refine⟨[13],?_,by decide⟩;have:=List.dropLast_concat_getLast h0;rw[List.getLast?_eq_some_getLast h0]at h;rw[an4 h]at this;exact this.symm
 exact⟨[],by simp,by decide⟩
theorem Wq(l:Tx):(mN l).length<=l.length:=by unfold mN;split<;>simp
def tG(k:Nat):Tx:=if k%2=1 then[32,9,10]else[]
def zA(k:Nat):Tx:=(if k/2%2=1 then[32,9,32]else[])++(if k/4=1 then[13]else[])
theorem XD(k:Nat):Bl (tG k):=by unfold tG;split<;>decide
theorem Zs(k:Nat):Bl (zA k):=by unfold zA;split<;>split<;>decide
def oD(g:Nat->Nat):Nat->List Tx->Tx
 |_,[]=>[]
 |i,l::L=>tG (g i)++(l++(zA (g i)++10::oD g (i+1) L))
theorem Mv(g:Nat->Nat): ∀(r cur:Tx) (from_ i:Nat),P0 (cur++r) (oD g i ((ja cur from_ r).map (·.1)))
 | [],cur,from_,i=>by
   unfold ja;split
   ·rename_i e;rw[e];exact Pd.nil.p0
   obtain⟨e,he,hb⟩:=Wr cur
   rw[List.map_cons,List.map_nil,oD,oD,aoQ];refine P0.app (a:=[]) (by decide) (XD _) ?_
   conv=>lhs;rw[he]
   exact(Pd.app _ (.fin _ _ hb (AR (Zs _) (by decide)))).p0
 | c::r,cur,from_,i=>by
   unfold ja;split
   ·rename_i hc
    obtain⟨e,he,hb⟩:=Wr cur;have ih:=Mv g r [] (from_+cur.length+1) (i+1);rw[anu]at ih;rw[List.map_cons,oD];refine P0.app (a:=[]) (by decide) (XD _) ?_
    have e2:cur++c::r=mN cur++((e++[10])++r):=by
     rw[hc]
     conv=>lhs;rw[he]
     simp
    have e3: ∀X:Tx,mN cur++(zA (g i)++10::X)=mN cur++((zA (g i)++[10])++X):=fun X=>by simp
    change P0 (cur++c::r) _
    rw[e2,e3];exact(Pd.app _ (P0.sep (AR hb (by decide)) (AR (Zs _) (by decide)) (by simp) (by simp) ih)).p0
   have ih:=Mv g r (cur++[c]) from_ i
   rw[anZ,List.singleton_append]at ih;exact ih
theorem aa1(g:Nat->Nat)(h:fq s= .ok t)(hl:(oD g 0 ((tA s).map (·.1))).length<=262144):fq (oD g 0 ((tA s).map (·.1)))= .ok t:=
 agR h (by have:=Mv g s [] 0 0;rwa[anu]at this) hl
theorem Zc(s:Tx)(a:Nat):aW s a a=[]:=by unfold aW;exact anj (by rw[ao2];omega)
theorem akt{a b:Nat}(h:a<=b)(hk:b+k<=s.length):aW s a (b+k)=aW s a b++(s.drop b).take k:=by
 unfold aW;rw[List.take_add,aoJ (by rw[ao2];omega)]
theorem VM: ∀(u cur:Tx) (f:Nat) (r:Tx),(∀c∈u,c≠10)->ja cur f (u++r)=ja (cur++u) f r
 |[],cur,f,r,_=>by rw[aoQ];rfl
 | c::u,cur,f,r,h=>by
   rw[aod,ja,if_neg (h c (by simp)),VM u _ f r (fun d hd=>h d (by simp[hd])),anZ];rfl
theorem afn(Uq:f<=p)(hp:s[p]? =some 10):ja (aW s f p) f (s.drop p)=(mN (aW s f p),f)::ja (aW s (p+1) (p+1)) (p+1) (s.drop (p+1)):=by
 obtain⟨h1,h2⟩:=anx.1 hp;rw[aoI h1,h2,ja,if_pos rfl,wO (by omega),Zc,show f+(p-f)+1=p+1 by omega]
theorem afm(Uq:f<=p)(hk:p+k<=s.length)(h: ∀i c,i<k->s[p+i]? =some c->c≠10):ja (aW s f p) f (s.drop p)=ja (aW s f (p+k)) f (s.drop (p+k)):=by
 rw[akt Uq hk]
 conv=>lhs;rw[<-List.take_append_drop k (s.drop p)]
 rw[VM,List.drop_drop];intro c hc;obtain⟨i,hi,e⟩:=List.getElem_of_mem hc;rw[ao2,aoN]at hi;refine h i c (by omega) ?_;rw[List.getElem_take,List.getElem_drop]at e;rw[<-e];exact am9 _
theorem afl(s:Tx)(f:Nat)(hf:f<=s.length):ja (aW s f s.length) f (s.drop s.length)=if f<s.length then[(mN (aW s f s.length),f)]else[]:=by
 rw[List.drop_length,ja];have:=wO (s:=s) (a:=f) (b:=s.length) (anb _)
 by_cases h:f<s.length
 ·rw[if_pos h,if_neg (by intro e;rw[e]at this;simp at this;omega)]
 rw[if_neg h,if_pos (ane (by omega))]
theorem agd(hp:p<=s.length):mN (aW s f p)=if f<p/\s[p-1]? =some 13 then aW s f (p-1)else aW s f p:=by
 unfold mN;have hl:=wO (s:=s) (a:=f) hp
 by_cases hf:f<p
 ·have e:(aW s f p).getLast?=s[p-1]? :=by
   rw[List.getLast?_eq_getElem?,hl,Dk (by omega),show f+(p-f-1)=p-1 by omega]
  rw[e]
  by_cases rB:s[p-1]? =some 13
  ·rw[if_pos rB,if_pos ⟨hf,rB⟩,List.dropLast_eq_take,hl]
   unfold aW;rw[List.take_drop,List.take_take,show f+(p-f-1)=p-1 by omega,Nat.min_eq_left (by omega)]
  rw[if_neg rB,if_neg (by rintro⟨-, h⟩;exact rB h)]
 have hz:aW s f p=[]:=ane (by omega)
 rw[hz,if_neg (by decide),if_neg (by rintro⟨h, -⟩;exact hf h)]
theorem Mt: ∀(r cur:Tx) (f:Nat),(ja cur f r).length<=r.length+1
 |[],cur,f=>by rw[ja];split<;>simp
 | c::r,cur,f=>by
   rw[ja];split
   ·have:=Mt r [] (f+cur.length+1);simp;omega
   have:=Mt r (cur++[c]) f;simp;omega
theorem afk(s:Tx):(tA s).length<=s.length+1:=Mt s [] 0
theorem Vp:gQ prog 41 3 (.int .i64 0) 1 8:=⟨underlying41,by kernel_rfl,rfl,by decide⟩
def Gt(L:List (Tx × Nat)):List Value:=L.map fun x=>Value.string (tx x.1)
def Gs(L:List (Tx × Nat)):List Value:=L.map fun x=>Value.int .i64 (x.2:Int)
structure qW(w:World)(B:Nat)(a:Option Addr)(c:Nat)(b:Option Addr)(d:Nat)(L:List (Tx × Nat)):Prop where
 t:Own w B 9 1 a L.length c (Gt L)
 i:Own w B 3 1 b L.length d (Gs L)
 ap:pP a b
theorem qW.nil(w:World)(B:Nat):qW w B none 0 none 0 []:=⟨Own.nil _ _ _ _,Own.nil _ _ _ _,.inl rfl⟩
theorem qW.below{w w':World}{c:Nat}{b:Option Addr}{L:List (Tx × Nat)}(h:qW w B a c b d L)(hb:Below w.heap.size w w'):qW w' B a c b d L:=⟨h.t.below hb,h.i.below hb,h.ap⟩
def aat(s:Tx)(w:World)(e:Ending)(w':World):Prop:=Below w.heap.size w w'/\
 ((262144<s.length/\e= .returned (.tuple #[.slice none 0 0,.slice none 0 0,.int .i64 2]))\/
 (s.length<=262144/\ ∃a c b d,e= .returned (.tuple #[.slice a (tA s).length c,.slice b (tA s).length d,.int .i64 0])/\qW w' w.heap.size a c b d (tA s)))
theorem Own.far{w:World}{E size n c:Nat}{xs:List Value}(h:Own w (B+1) E size a n c xs):a=none\/Option.some (bk a)≠Option.some B:=by
 cases a with
 |none=>exact .inl rfl
 |some x=>exact .inr (fun e=>by have:=(Own.lt h (by simp)).1;have:=an4 e;omega)
structure Eo(B:Nat)(a:Option Addr)(c:Nat)(b:Option Addr)(d:Nat)(L:List (Tx × Nat))(w0 w:World):Prop where
 ln:qW w B a c b d L
 bu:Below B w0 w
theorem Eo.app{c c3 d4:Nat}{a3 b b4:Option Addr}{L:List (Tx × Nat)}{w0 w w3 w4:World}(h:Eo B a c b d L w0 w)(y:Tx)(g:Nat)
 (o3:Own w3 B 9 1 a3 (L.length+1) c3 (Gt L++[.string (tx y)])) (g3:jF w w3 a c a3 c3) (B3:Below B w w3)
 (o4:Own w4 B 3 1 b4 (L.length+1) d4 (Gs L++[.int .i64 g])) (g4:jF w3 w4 b d b4 d4) (B4:Below B w3 w4):Eo B a3 c3 b4 d4 (L++[(y,g)]) w0 w4:=by
 obtain⟨oi,ap⟩:=h.ln.i.step g3.step h.ln.ap.symm;obtain⟨ot,ap2⟩:=o3.step g4.step ap.symm;refine⟨⟨?_,?_,ap2⟩,(h.bu.trans B3).trans B4⟩
 ·rw[aoW];unfold Gt;rw[ao3];exact ot
 rw[aoW];unfold Gs;rw[ao3];exact o4
theorem aiF(s:Tx)(w:World):Calls prog 15 #[.string (tx s)] w (aat s w):=by
 obtain⟨n,hn⟩:=aj s.length;have hsz:(tx s).size=n:=by rw[aM,hn]
 have HN:=hid hn
 by_cases hl:262144<n
 ·clear hn
  go_in;go_wp2_with fail
  go_ret3
  exact⟨anM _ _,.inl ⟨by rw[HN.out];exact hl,rfl⟩⟩
 have kC:n<=262144:=by omega
 obtain⟨A,hA⟩:=aj (tA s);have HA:=hid hA;clear hn hl hA;go_in;go_wp2
 go_loopw [5,6,7,8] (fun o q f i wr=> ∃(p g:Nat) (L:List (Tx × Nat)) (a:Option Addr) (c:Nat) (b:Option Addr) (d:Nat),i= .int .i64 p/\f= .int .i64 g/\g<=p/\p<=n+1/\o= .slice a L.length c/\q= .slice b L.length d/\L.length<=p/\Hid (Eo w.heap.size a c b d L w wr)/\Hid (p<=n->L++ja (aW s g p) g (s.drop p)=A)/\Hid (p=n+1->L=A)) (fun _ _ _ i _=>n+1-(intOf i).toNat)
 case atStart=>
  exact⟨0,0,[],none,0,none,0,rfl,rfl,anb _,Nat.zero_le _,rfl,rfl,anb _,hid ⟨qW.nil _ _,anM _ _⟩,hid (fun _=>by rw[Zc];exact HA.out),hid (fun h=>by omega)⟩
 obtain⟨p,g,L,a,c,b,d,rfl,rfl,BH,tj,rfl,rfl,hLp,W,HX,HY⟩:=hrel
 have hc:(p=n+1)\/(n<=p/\p<=n/\p<=g)\/(n<=p/\p<=n/\g<p)\/(p<n/\s[p]? =some 10)\/ ∃x,p<n/\s[p]? =some x/\x≠10:=by
  rcases Nat.lt_or_ge p n with h|h
  ·obtain⟨x,hx⟩: ∃x,s[p]? =some x:=⟨_,am9 (by rw[HN.out];exact h)⟩
   by_cases e:x=10
   ·subst e;exact .inr (.inr (.inr (.inl ⟨h,hx⟩)))
   exact .inr (.inr (.inr (.inr ⟨x,h,hx,e⟩)))
  omega
 have HE:=hid (fun(h1:n<=p) (h2:p<=n)=>show ja (aW s g p) g (s.drop p)=if g<p then[(mN (aW s g p),g)]else[]from by
  obtain rfl:p=s.length:=by rw[HN.out];omega
  exact afl s g BH)
 rcases hc with hp|⟨Lf,uD,hg⟩|⟨Lf,uD,hg⟩|⟨hp,hx⟩|⟨x,hp,hx,hne⟩
 ·have HF:=hid ((HY.out hp).trans HA.out.symm)
  have uD:n<p:=by omega
  clear hp;go_wp2_with fail
  go_ret3
  exact⟨W.out.bu,.inr ⟨by rw[HN.out];exact kC,a,c,b,d,by rw[<-HF.out];rfl,HF.out▸W.out.ln⟩⟩
 ·have HF:=hid (show L=A by have:=HX.out uD;rwa[HE.out Lf uD,if_neg (by omega),aoQ]at this)
  have z1:((g:Int)==(p:Int))=true:=ah;have z7:((p:Int)==(n:Int))=true:=ah;go_wp2
  go_roundw;exact⟨p+1,g,L,a,c,b,d,by go_num,rfl,by omega,by omega,rfl,rfl,by omega,W,hid (fun h=>by omega),hid (fun _=>HF.out)⟩;simp[intOf];omega
 rotate_left 2
 ·have iB:=hid (fun(_:p+1<=n)=>(afm (k:=1) BH (by rw[HN.out];omega) (fun i c hi hc=>by
   obtain rfl:i=0:=by omega
   rw[Nat.add_zero,hx]at hc;rw[<-an4 hc];exact hne))▸HX.out (by omega))
  have ix:=bB s p x hx;have z1:((x.toNat:Int) != 10)=true:=mZ x 10 hne;clear hx hne HX HY HE;go_wp2
  go_roundw;exact⟨p+1,g,L,a,c,b,d,by go_num,rfl,by omega,by omega,rfl,rfl,by omega,W,iB,hid (fun h=>by omega)⟩;simp[intOf];omega
 all_goals
  have HZ:=hid (show ∃y,mN (aW s g p)=y/\(p+1<=n->(L++[(y,g)])++ja (aW s (p+1) (p+1)) (p+1) (s.drop (p+1))=A)/\(p+1=n+1->L++[(y,g)]=A)from⟨_,rfl,by
   first
    |exact⟨fun h=>by omega,fun _=>by have:=HX.out uD;rwa[HE.out Lf uD,if_pos hg]at this⟩
    |exact⟨fun _=>by have:=HX.out (by omega);rw[afn BH hx]at this;rw[<-this];simp,fun h=>by omega⟩⟩)
  obtain⟨y,hy,iB,Ar⟩:=HZ.out;have iB:=hid iB;have Ar:=hid Ar;have hns:=agd (s:=s) (f:=g) (p:=p) (by rw[HN.out];omega);rw[hy]at hns
  have hq:(g<p/\s[p-1]? =some 13/\y=aW s g (p-1))\/(∃x,g<p/\s[p-1]? =some x/\x≠13/\y=aW s g p)\/(p<=g/\y=aW s g p):=by
   by_cases h:g<p/\s[p-1]? =some 13
   ·rw[if_pos h]at hns;exact .inl ⟨h.1,h.2,hns⟩
   rw[if_neg h]at hns
   rcases Nat.lt_or_ge g p with h2|h2
   ·exact .inr (.inl ⟨s[p-1]'(by rw[HN.out];omega),h2,am9 _,fun e=>h ⟨h2,by rw[am9 (by rw[HN.out];omega),e]⟩,hns⟩)
   exact .inr (.inr ⟨h2,hns⟩)
  (try(have ix:=bB s p 10 hx
       have z9:(((10:UInt8).toNat:Int) != 10)=false:=by decide
       clear hx))
  (try(have z8:((g:Int)==(p:Int))=false:=ah))
  (try(have z7:((p:Int)==(n:Int))=true:=ah))
  clear hns hy HX HY HE HZ;have o1:=W.out.ln.t;have hw2:=W.out.bu.size;rcases hq with⟨hq1,lJ,uE⟩|⟨x1,hq1,lJ,Lg,uE⟩|⟨hq1,uE⟩
  focus
   have i1: ∀w,(Instr.index 9 (.string (tx s)) (.int .i64 ((p:Int)-1))).run prog w= .ok (.int .u8 (13:UInt8).toNat) w:=by
    have:=bB s (p-1) 13 lJ
    rwa[show((p-1:Nat):Int)=(p:Int)-1 by omega]at this
   have O7:(((13:UInt8).toNat:Int)==13)=true:=by decide
   have sl: ∀w,(anh 9 (.string (tx s)) (some (.int .i64 g)) (some (.int .i64 ((p:Int)-1))) none).run prog w= .ok (.string (tx y)) w:=by
    have:=jD s g (p-1) (by omega) (by rw[HN.out];omega)
    rwa[show((p-1:Nat):Int)=(p:Int)-1 by omega,show(s.take (p-1)).drop g=y from uE.symm]at this
   clear lJ uE
  rotate_left
  focus
   have i1: ∀w,(Instr.index 9 (.string (tx s)) (.int .i64 ((p:Int)-1))).run prog w= .ok (.int .u8 x1.toNat) w:=by
    have:=bB s (p-1) x1 lJ
    rwa[show((p-1:Nat):Int)=(p:Int)-1 by omega]at this
   have O7:((x1.toNat:Int)==13)=false:=by
    rw[beq_eq_false_iff_ne];intro e;exact Lg (UInt8.toNat_inj.1 (by have:(13:UInt8).toNat=13:=rfl;omega))
   have sl: ∀w,(anh 9 (.string (tx s)) (some (.int .i64 g)) (some (.int .i64 (p:Int))) none).run prog w= .ok (.string (tx y)) w:=uE▸jD s g p BH (by rw[HN.out];omega);clear lJ uE Lg
  rotate_left
  focus
   first
    |(exfalso;omega)
    |(have sl: ∀w,(anh 9 (.string (tx s)) (some (.int .i64 g)) (some (.int .i64 (p:Int))) none).run prog w= .ok (.string (tx y)) w:=uE▸jD s g p BH (by rw[HN.out];omega)
      clear uE)
  rotate_left
  all_goals
   go_wp2_with (at_builtin;go_loud(refine jd jc (.tmp 55) (.tmp 60) rfl rfl rfl o1 rfl rfl jf (anM _ _) hw2 (by omega) cz ?_))
   intro a3 c3 w3 o3 g3 B3;have o2:=(W.out.ln.i.step g3.step W.out.ln.ap.symm).1;have hw3:=Nat.le_trans hw2 B3.size;have B3:=hid B3;have o3:=hid o3;clear o1
   go_wp2_with (at_builtin;go_loud(refine jd Vp (.tmp 62) (.tmp 64) rfl rfl rfl o2 rfl rfl jf (anM _ _) hw3 (by omega) cz ?_))
   intro b4 d4 w4 o4 g4 B4;have W4:=hid (W.out.app y g o3.out g3 B3.out o4 g4 B4);clear o2 o3 o4 g3 g4 B3 B4;go_wp2
   go_roundw;exact⟨p+1,p+1,L++[(y,g)],a3,c3,b4,d4,by go_num,by go_num,anb _,by omega,by simp,by simp,ah,W4,iB,Ar⟩;simp[intOf];omega
open Go.Sort
attribute [local go_sem high] qd J3
section
variable {B m N n c d:Nat} {a b:Option Addr} {T I:List Value} {u w:World}
theorem qW.lP{L:List (Tx × Nat)}(h:qW w B a c b d L)(hl:L.length<=262145):bS w a (L.map (·.1))/\gU w b (L.map fun x=>(x.2:Int)):=by
 refine⟨⟨?_,ah⟩,⟨?_,ah⟩⟩
 ·have:=Own.row h.t;unfold Gt at this;rwa[List.map_map]
 have:=Own.row h.i;unfold Gs at this;unfold ints;rwa[List.map_map]
end
theorem agO(h:cJ af s= .error (e,k)):e≠0:=by
 unfold cJ at h
 split at h
 ·cases h;decide
 split at h
 ·cases h;decide
 split at h
 ·cases h;decide
 rename_i q x _
 by_cases h0:cV af q x=0
 ·simp only[if_pos h0]at h;cases h
 simp only[if_neg h0]at h;cases h;exact h0
theorem adv(h:fP N r= .error (e,k)):e≠0:=by
 unfold fP at h
 dsimp only at h
 split at h
 ·cases h;decide
 split at h
 ·cases h;decide
 cases h
theorem acv(h:eH N r= .error (e,k)):e≠0:=by
 unfold eH at h
 dsimp only at h
 split at h
 ·cases h
 split at h
 ·cases h;decide
 cases h
theorem M8{af:Int}{N:Nat}: ∀{L:List Tx} {v:Tx} {acc:List aL} {e:Int} {k:Nat},gF af N L v acc= .error (e,k)->e≠0
 |[],v,acc,e,k,h=>by cases h
 | p::L,v,acc,e,k,h=>by
   rw[gF]at h
   split at h
   ·exact M8 h
   split at h
   ·cases h;decide
   exact M8 h
theorem aeh(h:eM af N r= .error (e,k)):e≠0:=by
 unfold eM at h
 dsimp only at h
 split at h
 ·cases h;decide
 split at h
 ·rename_i x hx;obtain⟨x1,x2⟩:=x;cases h;exact M8 hx
 cases h
theorem JD{af:Int}{N:Nat}: ∀{L:List Tx} {v:Tx} {acc:List (List ay)} {e:Int} {k:Nat},dn af N L v acc= .error (e,k)->e≠0
 |[],v,acc,e,k,h=>by cases h
 |c::L,v,[],e,k,h=>by cases h
 | c::L,v,x::acc,e,k,h=>by
   rw[dn]at h
   split at h
   ·split at h
    ·rename_i y hy;obtain⟨y1,y2⟩:=y;cases h;exact JD hy
    cases h
   split at h
   ·cases h;decide
   split at h
   ·rename_i y hy;obtain⟨y1,y2⟩:=y;cases h;exact JD hy
   cases h
theorem Y4{af:Int}{N:Nat}: ∀{n:Nat} {r:Tx} {acc:List (List ay)} {e:Int} {k:Nat},jC af N n r acc= .error (e,k)->e≠0
 |0,r,acc,e,k,h=>by cases h
 | n+1,r,acc,e,k,h=>by
   rw[jC]at h
   try dsimp only at h
   split at h
   ·cases h
   split at h
   ·cases h;decide
   split at h
   ·rename_i y hy;obtain⟨y1,y2⟩:=y;cases h;exact JD hy
   exact Y4 h
theorem akZ(h:eR af N r= .error (e,k)):e≠0:=by
 unfold eR at h
 dsimp only at h
 split at h
 ·cases h;decide
 exact Y4 h
theorem abQ(h:gL af N r= .error (e,k)):e≠0:=by
 unfold gL at h
 dsimp only at h
 split at h
 ·cases h
 rename_i e2 k2 hk
 cases h;exact agO hk
theorem agQ(h:fq s= .error (e,k)):e≠0:=by
 unfold fq at h
 split at h
 ·cases h;decide
 split at h
 ·rename_i x hx
  cases h;unfold lz at hx;cases h1:fP s.length s with
  |error x=>rw[h1]at hx;obtain⟨x1,x2⟩:=x;cases hx;exact adv h1
  | ok p=>
    obtain⟨a,n,r1⟩:=p;rw[h1]at hx
    change (eH s.length r1 >>= _)=_ at hx
    cases h2:eH s.length r1 with
    |error x=>rw[h2]at hx;obtain⟨x1,x2⟩:=x;cases hx;exact acv h2
    | ok p=>
      obtain⟨c,r2⟩:=p;rw[h2]at hx
      change (eM a s.length r2 >>= _)=_ at hx
      cases h3:eM a s.length r2 with
      |error x=>rw[h3]at hx;obtain⟨x1,x2⟩:=x;cases hx;exact aeh h3
      | ok p=>
        obtain⟨i,r3⟩:=p;rw[h3]at hx
        change (eR a s.length r3 >>= _)=_ at hx
        cases h4:eR a s.length r3 with
        |error x=>rw[h4]at hx;obtain⟨x1,x2⟩:=x;cases hx;exact akZ h4
        | ok p=>
          obtain⟨l,r4⟩:=p;rw[h4]at hx
          change (gL a s.length r4 >>= _)=_ at hx
          cases h5:gL a s.length r4 with
          |error x=>rw[h5]at hx;obtain⟨x1,x2⟩:=x;cases hx;exact abQ h5
          |ok p=>obtain⟨q,x⟩:=p;rw[h5]at hx;cases hx
 split at h
 ·cases h
 rename_i h0;cases h;exact h0
def uq(l:List Int)(i:Nat):Nat:=match l[i]? with
 |some x=>((IntKind.u64.wrap x).tmod 8).toNat
 |none=>0
theorem Ti(x:Int):wrap64 ((IntKind.u64.wrap x).tmod 8)=((((IntKind.u64.wrap x).tmod 8).toNat:Nat):Int)/\((IntKind.u64.wrap x).tmod 8).toNat<8:=by
 have h0:0<=IntKind.u64.wrap x:=by unfold IntKind.wrap;simp[IntKind.bits,IntKind.signed];omega
 have h1:=Int.tmod_nonneg (8:Int) h0;have h2:=Int.tmod_lt_of_pos (IntKind.u64.wrap x) (show(0:Int)<8 by decide);generalize (IntKind.u64.wrap x).tmod 8=y at*;exact⟨by unfold wrap64;omega,by omega⟩
theorem ada(l:List Int)(i:Nat):uq l i<8:=by
 unfold uq;cases l[i]? with
 |none=>simp
 |some x=>exact(Ti x).2
theorem agK{g:Nat->Nat}{i:Nat}{l W Z:Tx}(hl:L[i]? =some l)(h:Z=W++oD g i (L.drop i)):Z=(((((W++tG (g i))++l)++(if g i/2%2=1 then[32,9,32]else[]))++(if g i/4=1 then[13]else[]))++[10])++oD g (i+1) (L.drop (i+1)):=by
 obtain⟨h1,h2⟩:=anx.1 hl;rw[h,aoI h1,h2,oD,zA];simp only[anZ,aod,anu]
theorem Mu: ∀(r cur:Tx) (f:Nat),∀x∈ja cur f r,x.1.length<=cur.length+r.length
 | [],cur,f,x,h=>by
   unfold ja at h
   split at h
   ·cases h
   rcases aoi.1 h with rfl
   exact Wq cur
 | c::r,cur,f,x,h=>by
   unfold ja at h
   split at h
   ·rcases List.mem_cons.1 h with rfl|h
    ·have:=Wq cur;simp;omega
    have:=Mu r [] _ x h;simp at this ⊢; omega
   have:=Mu r (cur++[c]) f x h;simp at this ⊢; omega
theorem ag4(k:Nat):(tG k).length<=3:=by unfold tG;split<;>simp
theorem ae9(s:Tx)(m:List Int)(b:Option Addr)(c:Nat)(w:World)(hI:gU w b m)(hm:s.length<=9223372036854775807)(g:Gl w):Calls prog 4 #[.string (tx s),.slice b m.length c] w (aJ w (.bool true)):=by
 have AW:=hid QT;have HG:=hid g;have PR:=hid (fun w g=>yR s hm w g);have PD:=hid (fun w g=>Yh s hm w g);have LN:=hid (fun w=>aiF s w);have PW:=hid (fun(u:Tx) (hu:u.length<=262144) w g=>yR u (by omega) w g);have ST:=hid (fun y1 y2 w h1 h2=>Yf y1 y2 w h1 h2);have BS:=hid (fun t (h:fq s= .ok t) hl=>aa1 (uq m) h hl);have HI:=hid hI;have hmx:=hI.len;cases hp:fq s with
 | error x=>
   obtain⟨er,k⟩:=x;rw[hp]at PR PD;have hnz:=agQ hp;have z1:(er != 0)=true:=by simpa using hnz
   have z2:(er==er)=true:=by simp
   clear hp BS LN PW ST hnz g hI hm
   go_in
   go_wp2_with fail;refine(PR.out w HG.out).mono ?_;rintro e w2 ⟨E2,rfl⟩;have E:=aB E2 (al w2 kZ);have g2:=HG.out.below E;clear E2;go_wp2_with fail;refine(PD.out _ g2).mono ?_;rintro e w3 ⟨E3,rfl⟩;have E:=E.trans ((E3.trans ((al w3 kZ).mono E3.size)).mono E.size);have AW:=hid (AW.out _ (HG.out.below E));clear E3 g2;go_wp2_with fail;refine AW.out.mono ?_;rintro e w6 ⟨rfl,E6⟩;have E:=E.trans (E6.mono E.size);go_wp2_with fail
   (try go_simp)
   go_ret;exact⟨rfl,E⟩
 | ok t=>
   rw[hp]at PR;have l5:=(MX.1 hp).1;have BS:=hid (BS.out t hp);obtain⟨L,hL⟩:=aj ((tA s).map (·.1));have hLl:=afk s;obtain⟨n,hn⟩:=aj ((tA s).length);have Uy:L.length=n:=by rw[<-hL,anL,hn]
   rw[hL]at BS;have hLm:=hid hL;have HN:=hid Uy;have hnb:n<=262145:=by omega
   have Al:=hid l5;obtain⟨Z,hZ⟩:=aj (oD (uq m) 0 L);rw[hZ]at BS;have HZ:=hid hZ.symm;clear hp PD g hI hm l5 hZ hLl Uy
   go_in
   go_wp2_with fail;refine(PR.out w HG.out).mono ?_;rintro e w2 ⟨E2,y1,hy1,rfl,TF⟩;have E:=hid (aB E2 (al w2 (cq y1)));have O1:=hid (TF.below (al w2 (cq y1)));have T1:=hid (fF.new w2 y1);have H1:=hid hy1;clear E2 TF hy1 PR;go_wp2_with fail;generalize w2.alloc (cq y1)=W2 at*;have E:=E.out;have de:w2.heap.size<W2.heap.size:=T1.out.lt;refine(LN.out W2).mono ?_;rintro e w3 h;obtain⟨E3,⟨hl, -⟩|⟨-, a,c1,b2,d,rfl,ho⟩⟩:=h
   ·have:=Al.out;omega
   have TX:=hid (ho.lP (by rw[hn];exact hnb)).1;rw[hn];rw[hL]at TX;have E:=hid (E.trans (E3.mono E.size));have O1:=hid (O1.out.below E3);have T1:=hid (T1.out.below E3);have eJ:w2.heap.size<w3.heap.size:=Nat.lt_of_lt_of_le de E3.size;clear ho E3 LN hn hL;go_wp2_with fail
   go_loopw [14,15] (fun x i wr=> ∃(j:Nat) (W:Tx),x= .string (tx W)/\i= .int .i64 j/\j<=n/\W.length<=262144/\Hid (Z=W++oD (uq m) j (L.drop j))/\wr=w3) (fun _ i _=>n-(intOf i).toNat)
   ·exact⟨0,[],rfl,rfl,Nat.zero_le _,by simp,hid (by rw[List.drop_zero];exact HZ.out),gf⟩
   obtain⟨j,W,rfl,rfl,hjn,TU,HW,rfl⟩:=hrel
   by_cases hlt:j<n
   ·obtain⟨l,hl⟩: ∃l,L[j]? =some l:=⟨_,am9 (by rw[HN.out];exact hlt)⟩
    have Ap:=hid (agK hl HW.out);have p0:=TX.out.ri hl;have ix:=TX.out.idx j (by rw[HN.out];exact hlt) c1;rw[HN.out]at ix;have zj:decide ((j:Int)<(n:Int))=true:=ah
    have dK:l.length<=262144:=by
     have h1:=List.mem_of_getElem? hl;rw[<-hLm.out]at h1;obtain⟨x,hx,rfl⟩:=List.mem_map.1 h1;have h2:=Mu s [] 0 x hx;have h3:=Al.out;simp only[List.length_nil]at h2;omega
    have gl:=HG.out.below E.out;have AWr:=hid (AW.out _ gl);obtain⟨k,hk⟩:=aj (uq m j);rw[hk]at Ap;have hk8:k<8:=by rw[<-hk];exact ada m j
    have Cb:(decide ((j:Int)<(m.length:Int))=true/\j<m.length/\ ∃x:Int,wr.cell? ⟨bk b,fo b+j,none⟩=some (.int .i64 x)/\(∀w',(Instr.indexAt 41 (.slice b m.length c) (.int .i64 j)).run prog w'= .ok (.pointer (some ⟨bk b,fo b+j,none⟩)) w')/\wrap64 ((IntKind.u64.wrap x).tmod 8)=(k:Int))\/(decide ((j:Int)<(m.length:Int))=false/\m.length<=j/\k=0):=by
     by_cases yd:j<m.length
     ·refine .inl ⟨ ah,yd,m[j],(HI.out.below E.out).cell j yd,(HI.out.below E.out).idx Vp j yd c,?_⟩
      rw[(Ti m[j]).1,<-hk];unfold uq;rw[am9 yd]
     refine .inr ⟨ ah,by omega,?_⟩
     rw[<-hk];unfold uq;rw[List.getElem?_eq_none (by omega)]
    have zS:=hid (fun(u v:Tx) (h:u.length+v.length<=1000000)=>wM u v (by omega));clear hl hk HW;have h8:k=0\/k=1\/k=2\/k=3\/k=4\/k=5\/k=6\/k=7:=by omega
    obtain⟨s2,hs2⟩: ∃s2:Tx,(if k/2%2=1 then[32,9,32]else[])=s2:=⟨_,rfl⟩;obtain⟨s3,hs3⟩: ∃s3:Tx,(if k/4=1 then[13]else[])=s3:=⟨_,rfl⟩;obtain⟨A,hA⟩:=aj (W++tG k);rw[hs2,hs3,hA]at Ap;have Ts:A.length<=262147:=by rw[<-hA,aoW];have:=ag4 k;omega
    have cB:=zS.out A l (by omega);obtain⟨B,hB⟩:=aj (A++l);rw[hB]at cB Ap;have hBl:B.length<=524291:=by rw[<-hB,aoW];omega
    have Tq:s2.length<=3:=by rw[<-hs2];split<;>simp
    have h3l:s3.length<=1:=by rw[<-hs3];split<;>simp
    obtain⟨C,hC⟩:=aj (B++s2);obtain⟨D,hD⟩:=aj (C++s3);have jI:C.length<=524294:=by rw[<-hC,aoW];omega
    have hDl:D.length<=524295:=by rw[<-hD,aoW];omega
    have cF:=zS.out D [10] ah;obtain⟨F,hF⟩:=aj (D++[10]);rw[hC,hD,hF]at Ap;rw[hF]at cF;obtain⟨nF,hnF⟩:=aj ((tx F).size);have HNF:=hid (show F.length=nF by rw[<-hnF,aM]);have EX:=hid E.out;clear hB hF
    have wA:(k%2=1/\ ∀w,(an9 .add (tx W) ⟨#[32,9,10]⟩).run prog w= .ok (.string (tx A)) w)\/(k%2=0/\W=A):=by
     rcases aqY k with e|e
     ·refine .inr ⟨e,?_⟩
      rw[<-hA,tG,if_neg (by omega),aoQ]
     refine .inl ⟨e,?_⟩
     rw[<-hA,tG,if_pos e];exact zS.out W [32,9,10] ah
    have w2:(k/2%2=1/\ ∀w,(an9 .add (tx B) ⟨#[32,9,32]⟩).run prog w= .ok (.string (tx C)) w)\/(k/2%2=0/\B=C):=by
     rcases aqY (k/2)with e|e
     ·refine .inr ⟨e,?_⟩
      rw[<-hC,<-hs2,if_neg (by omega),aoQ]
     refine .inl ⟨e,?_⟩
     rw[<-hC,<-hs2,if_pos e];exact zS.out B [32,9,32] ah
    have w3:(k/4=1/\ ∀w,(an9 .add (tx C) ⟨#[13]⟩).run prog w= .ok (.string (tx D)) w)\/(k/4=0/\C=D):=by
     by_cases e:k/4=1
     ·refine .inl ⟨e,?_⟩
      rw[<-hD,<-hs3,if_pos e];exact zS.out C [13] ah
     refine .inr ⟨by omega,?_⟩
     rw[<-hD,<-hs3,if_neg e,aoQ]
    have cF: ∀w,(an9 .add (tx D) ⟨#[10]⟩).run prog w= .ok (.string (tx F)) w:=cF;clear hA hC hD hs2 hs3 hk8 Ts hBl jI hDl Tq h3l;rcases Cb with⟨zm,yd,x,px,ixm,hx⟩|⟨zm,yd,hk0⟩
    focus
     replace hx:=hid hx
     go_upto_region 15 with(fail)
     rw[hx.out];clear hx px ixm
    rotate_left
    focus
     go_upto_region 15 with(fail)
    all_goals
     rcases wA with⟨e1,cA⟩|⟨e1,rfl⟩<;>rcases w2 with⟨e2,c2⟩|⟨e2,rfl⟩<;>rcases w3 with⟨e3,c3⟩|⟨e3,rfl⟩<;>rcases h8 with rfl|rfl|rfl|rfl|rfl|rfl|rfl|rfl<;>first|(exfalso;omega)|skip
    all_goals
     clear e1 e2 e3
     by_cases hF:nF<=262144
     ·have zF:decide ((262144:Int)<(nF:Int))=false:=ah
      go_wp2_with fail
      go_roundw;exact⟨j+1,F,rfl,by go_num,by omega,by rw[HNF.out];exact hF,Ap,gf⟩;simp[intOf];omega
     have zF:decide ((262144:Int)<(nF:Int))=true:=ah
     go_wp2_with fail;refine AWr.out.mono ?_;rintro e w6 ⟨rfl,E6⟩;go_wp2_with fail
     (try go_simp)
     go_ret;exact⟨rfl,EX.out.trans (E6.mono EX.out.size)⟩
   obtain rfl:j=n:=by omega
   have Kw:Z=W:=by rw[HW.out,anj (by rw[HN.out];exact anb _),oD,aoQ]
   have zj:decide ((j:Int)<(j:Int))=false:=by simp
   have IZ:=hid (PW.out W TU);have Ii:=BS.out (by rw[Kw];exact TU);rw[Kw]at Ii;rw[Ii]at IZ;clear Ii Kw HW;go_wp2_with fail;refine(IZ.out _ (HG.out.below E.out)).mono ?_;rintro e w4 ⟨E4,y2,hy2,rfl,dr⟩;have Kt:oU y1 y2:=ET.2 (H1.out.trans hy2.symm);have E5:=aB E4 (al w4 (cq y2));have HY:=hid ((dr.below (al w4 (cq y2))).lK);have HX:=hid (O1.out.below E5).lK;have b0:=fF.new w4 y2;have a4:=T1.out.below E5;obtain⟨q0,q1,q2,q3,q4,q5,q6,q7,q8,q9,iN,iO⟩:=b0.cells;obtain⟨p0,p1,p2,p3,p4,p5,p6,p7,p8,p9,gZ,ig⟩:=a4.cells;have Kt:=hid Kt;have amO:=a4.lt;have amQ:=b0.lt;have EE:=hid (E.out.trans (E5.mono E.out.size));clear hy2 dr b0 a4 E4 E5 IZ;go_wp2_with fail;refine(ST.out y1 y2 _ HX.out HY.out).mono ?_;rintro e w5 ⟨bb,rfl,dU,E6⟩;obtain rfl:bb=true:=dU.2 Kt.out;have EE:=EE.out.trans (E6.mono EE.out.size);have AW:=hid (AW.out _ (HG.out.below EE));clear p0 p1 p2 p3 p4 p5 p6 p7 p8 p9 gZ ig q0 q1 q2 q3 q4 q5 q6 q7 q8 q9 iN iO dU E6 ST;go_wp2_with fail;refine AW.out.mono ?_;rintro e w6 ⟨rfl,E7⟩;have EE:=EE.trans (E7.mono EE.size);go_wp2_with fail
   (try go_simp)
   go_ret;exact⟨rfl,EE⟩
end Go.Proofs.YtkbbgjloifmmbaaGreatDoor
