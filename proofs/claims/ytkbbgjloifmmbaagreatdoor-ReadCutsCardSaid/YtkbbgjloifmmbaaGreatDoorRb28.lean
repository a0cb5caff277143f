/- What ReadBackP leans on, part 28. -/
import Derived.Test.YtkbbgjloifmmbaaGreatDoorRb23
set_option linter.unusedVariables false
namespace Go.Proofs.YtkbbgjloifmmbaaGreatDoor
open _root_.List renaming getElem?_eq_getElem->amK,dropWhile_cons_of_pos->aoG,getElem?_eq_none->an8,cons_append->anr,getElem?_map->ao7,getLast?_concat->ao2,append_eq_append_iff->apn,length_cons->ans,map_cons->anT,getD_eq_getElem?_getD->apo,length_map->ao3,append_assoc->anF,take_of_length_le->apq,all_eq_true->anq,mem_append->anu,count_eq_zero_of_not_mem->apr,length_append->aoE,mem_cons->amY,dropWhile_cons_of_neg->ao0,ext_getElem?->aps,length_eq_zero_iff->anx,length->aoQ,dropWhile_suffix->aoI,singleton_append->anl,mem_map->apu,count_append->apv,getElem_mem->apw,length_drop->aoJ,nil_append->anJ
open _root_.List.cons renaming inj->aoZ
open _root_.Go.Lib renaming itoa->anj
open _root_.Classical renaming byContradiction->apt
open _root_.Option renaming map_some->am7
open _root_.Nat renaming zero_le->apj
open _root_.Bool renaming or_eq_true->anI
open _root_.Option.some renaming inj->aoX
theorem LS{l:Tx}(h:az l=true):aT l=[l]:=zb (SN h) (SX h)
theorem WL(n:Int):aT (36::anj n)=[36::anj n]:=zb (by simp) (fun c hc=>by
 rcases amY.1 hc with rfl|hc
 ·decide
 ·exact Tk n c hc)
theorem LV{k:Nat}(h:k<15):aT (aO k)=[aO k]:=by
 obtain⟨c,t,e, -⟩:=KJ h;exact zb (by rw[e];simp) (U4 h)
theorem alA(r:Tx):aT (77::79::86::32::r)=[77,79,86]::aT r:=by
 rw[Cf _ (by decide)];show(77::[79,86])::aT (32::r)=_;rw[WI _ (by decide)]
theorem Cg(a:Tx){c:UInt8}(b:Tx)(h:qF c=true):aT (a++c::b)=aT a++[c]::aT b:=wN a [] b h
theorem PV{n:Int}(h:aY n=true):jd (36::anj n)=some n:=by
 unfold jd;rw[if_pos (show(36::anj n).head?=some 36 from rfl)];exact mC.2 ⟨rfl,h⟩
theorem abI{k:Nat}(h:k<15):jd (aO k)=none:=by
 obtain⟨c,t,e,-, iP⟩:=KJ h;unfold jd;rw[if_neg];rw[e];simpa using iP
theorem Kn{l:Tx}(h:az l=true):jE [91] l [93]=some l:=by
 unfold jE;rw[if_pos ⟨rfl,rfl,h⟩]
theorem EH{r:Tx}{L:List Tx}{i:Ins}(hl:(77::79::86::32::r:Tx).length<=262144)(hw:aT r=L)(h3:3<=L.length)(h:fO L=some i):eL (77::79::86::32::r)=some i:=by
 rw[<-afI];unfold Ki
 rw[alA,hw,if_neg (by omega),if_neg (by intro e;have:=(aoZ e).1;revert this;decide),if_neg (by
  rintro(e|e|e)
  ·simp at e;omega
  ·exact e rfl
  ·revert e;exact(by decide: ¬(true=false)))]
 exact h
theorem afK{i:Ins}(h:dy i=true):eL (dJ i)=some i:=by
 have hl:=Uu h;obtain⟨ho, -⟩:=G6 h;rcases Zp h with⟨l,n,rfl,h1⟩|⟨l,a,rfl,h1,h2⟩|⟨l,d,rfl,h1,h2⟩|⟨n,d,rfl,h2⟩|rfl
 ·have hn:aY n=true:=by unfold kQ at ho;simpa[h1]using ho
  have e:dJ ⟨1,0,0,0,n,l,[],0⟩=77::79::86::32::91::(l++93::44::36::anj n):=by unfold dJ;simp
  rw[e]at hl⊢;refine EH (L:=[[91],l,[93],[44],36::anj n]) (by omega) ?_ (by simp) ?_
  ·rw[uD _ (by decide),Cg _ _ (by decide),LS h1,uD _ (by decide),WL];rfl
  ·rw[fO,if_pos rfl,PV hn,Kn h1];rfl
 ·have e:dJ ⟨2,0,a,0,0,l,[],0⟩=77::79::86::32::91::(l++93::44::aO a):=by unfold dJ;simp[mI]
  rw[e]at hl⊢;refine EH (L:=[[91],l,[93],[44],aO a]) (by omega) ?_ (by simp) ?_
  ·rw[uD _ (by decide),Cg _ _ (by decide),LS h1,uD _ (by decide),LV h2];rfl
  ·rw[fO,if_pos rfl,abI h2,Kn h1,Fb h2]
 ·have e:dJ ⟨3,d,0,0,0,l,[],0⟩=77::79::86::32::(aO d++44::91::(l++93::[])):=by unfold dJ;simp[mI]
  rw[e]at hl⊢;refine EH (L:=[aO d,[44],[91],l,[93]]) (by omega) ?_ (by simp) ?_
  ·rw[Cg _ _ (by decide),LV h2,uD _ (by decide),Cg _ _ (by decide),LS h1];rfl
  ·rw[fO,if_neg (by
   rintro rfl
   revert h1;decide),if_pos rfl,Fb h2,Kn h1]
 ·have hn:aY n=true:=by unfold kQ at ho;simp at ho;exact ho.2
  have e:dJ ⟨4,d,0,0,n,[],[],0⟩=77::79::86::32::(aO d++44::36::anj n):=by unfold dJ;simp[mI]
  rw[e]at hl⊢;refine EH (L:=[aO d,[44],36::anj n]) (by omega) ?_ (by simp) ?_
  ·rw[Cg _ _ (by decide),LV h2,WL];rfl
  ·rw[fO,if_pos rfl,Fb h2,PV hn]
 ·decide+kernel
def Ends(s:Tx):Prop:=(∀c,s.head?=some c->aj c=false)/\ ∀c,s.getLast?=some c->aj c=false
theorem NR{c:UInt8}(h:mU c=true)(h2:c≠32):aj c=false:=by
 have k:=kZ (p:=fun c=> !mU c||(c==32|| !aj c)) (by decide+kernel) c;rw[h]at k;simpa[h2]using k
theorem Ends.of{s:Tx}(hb:bu s)(hl:dS s)(h0: ∀c,s.head?=some c->c≠32):Ends s:=by
 refine⟨fun c hc=>NR (hb c (List.mem_of_head? hc)) (h0 c hc),fun c hc=>NR (hb c (List.mem_of_getLast? hc)) ?_⟩;obtain⟨p,d,rfl,hd⟩:=hl;rw[ao2]at hc;cases hc;exact hd
theorem af8{i:Ins}(h:dy i=true): ∀c,(dJ i).head?=some c->c≠32:=by
 intro c hc;unfold dJ at hc
 have:c=77:=by
  split at hc
  ·simpa using hc.symm
  ·split at hc
   ·simpa using hc.symm
   ·split at hc
    ·simpa using hc.symm
    ·split at hc<;>simpa using hc.symm
 subst this;decide
theorem af4{i:Ins}(h:aU i=true): ∀c,(bV i).head?=some c->c≠32:=by
 intro c hc;obtain⟨ho, -⟩:=xD h;unfold bV at hc
 by_cases h6:i.op=6
 ·rw[if_pos h6]at hc;simp at hc;subst hc;decide
 rw[if_neg h6]at hc
 by_cases h7:i.op=7
 ·rw[if_pos h7]at hc;simp at hc;subst hc;decide
 rw[if_neg h7]at hc
 by_cases h8:i.op=8
 ·rw[if_pos h8]at hc;simp at hc;subst hc;decide
 rw[if_neg h8]at hc
 by_cases h9:i.op=9
 ·rw[if_pos h9]at hc;simp at hc;subst hc;decide
 rw[if_neg h9]at hc
 by_cases h10:i.op=10
 ·rw[if_pos h10]at hc;simp at hc;subst hc;decide
 rw[if_neg h10]at hc
 by_cases h11:i.op=11
 ·rw[if_pos h11]at hc;simp at hc;subst hc;decide
 rw[if_neg h11]at hc
 by_cases h12:i.op=12
 ·rw[if_pos h12]at hc
  have hl:az i.label=true:=by
   unfold dn at ho;rw[if_neg (by omega),if_pos (.inr h12)]at ho;exact ho
  obtain⟨d,r,e,hd⟩:=Bn hl;rw[e]at hc;simp at hc;subst hc;rintro rfl
  revert hd;decide
 rw[if_neg h12]at hc
 split at hc<;>(simp at hc;subst hc;decide)
theorem Zg{af:Int}{i:Ins}(ha:aH af=true)(h:gF af i=true):Ends (dL af i).1:=by
 refine .of (NI af i) (NU ha h) ?_;unfold aH at ha;simp only[anI,decide_eq_true_eq]at ha;unfold gF at h;unfold dL;rcases ha with rfl|rfl
 ·rw[if_pos rfl]at h ⊢; rw[if_pos h];exact af8 h
 ·rw[if_neg (by decide)]at h ⊢; rw[if_pos rfl,if_pos h];exact af4 h
theorem Zh{af:Int}{i:Ins}(ha:aH af=true)(h:gF af i=true):pE af (dL af i).1=some i:=by
 unfold aH at ha;simp only[anI,decide_eq_true_eq]at ha;unfold gF at h;unfold dL pE;rcases ha with rfl|rfl
 ·rw[if_pos rfl]at h;rw[if_pos rfl,if_pos rfl,if_pos h];exact afK h
 ·rw[if_neg (by decide)]at h;rw[if_neg (by decide),if_neg (by decide),if_pos rfl,if_pos h];exact afS i h
theorem akM{s:Tx}(h:Bl s):ah s=[]:=(Ln s).2 (Sa h)
theorem akQ{s:Tx}(a b:Tx)(ha:Bl a)(hb:Bl b)(hs:Ends s):ah (a++(s++b))=s:=by
 cases s with
 |nil=>exact akM (fun c hc=>by
  rw[anJ]at hc;exact(anu.1 hc).elim (ha c) (hb c))
 | cons c r=>
   have hc:=hs.1 c rfl;rw[anr,BO a _ c hc,yL hb]
   have e:dz r=r:=by
    refine EX fun d hd=>hs.2 d ?_
    cases r with
    |nil=>cases hd
    |cons x y=>simpa using hd
   have e2:a.dropWhile aj=[]:=BG ha;rw[e,e2];rfl
theorem akS{s:Tx}(n:Nat)(hs:Ends s):ah (lP n s)=s:=by
 have:=akQ (s:=s) [] (List.replicate (n-s.length) 32) (by decide) (fun c hc=>by
  have:=(List.mem_replicate.1 hc).2;subst this;decide) hs
 simpa[lP]using this
theorem akR{c:UInt8}(r:Tx)(h:aj c=true):ah (c::r)=ah r:=by
 rw[pL,pL]
 have e: ∃u,dz (c::r)=c::u/\u=dz r\/(dz (c::r)=[]/\dz r=[]):=by
  unfold dz;rw[List.reverse_cons];cases f:r.reverse.dropWhile aj with
  | nil=>
    refine⟨[],.inr ⟨?_,by simp⟩⟩;have hb:Bl r.reverse:=rM f;rw[List.dropWhile_append_of_pos hb,aoG h];rfl
  | cons d m=>
    refine⟨(d::m).reverse,.inl ⟨?_,rfl⟩⟩
    have k: ∀L:Tx,L.dropWhile aj=d::m->(L++[c]).dropWhile aj=d::m++[c]:=by
     intro L
     induction L with
     |nil=>intro h;cases h
     | cons x L ih=>
       intro hL;rw[anr];cases hx:aj x with
       |true=>rw[aoG hx]at hL ⊢; exact ih hL
       |false=>rw[ao0 (by rw[hx];decide)]at hL ⊢; rw[<-anr,hL]
    rw[k _ f];simp
 obtain⟨u,⟨e1,e2⟩|⟨e1,e2⟩⟩:=e
 ·rw[e1,aoG h,e2]
 ·rw[e1,e2]
theorem VM{c:UInt8}(r:Tx)(h:aj c=true):(aD 124 (c::r)).map ah=(aD 124 r).map ah:=by
 have hc:(c==124)=false:=by
  cases e:c==124 with
  |false=>rfl
  | true=>
    have:c=124:=by simpa using e
    subst this;revert h;decide
 cases e:aD 124 r with
 |nil=>exact absurd e (om 124 r)
 |cons x t=>rw[Fq hc e,anT,anT,akR x h]
theorem VP: ∀l:Tx,(aD 124 (l.dropWhile aj)).map ah=(aD 124 l).map ah
 |[]=>rfl
 | c::r=>by
   cases h:aj c with
   |true=>rw[aoG h,VP r,VM r h]
   |false=>rw[ao0 (by rw[h];decide)]
theorem Wi(x:Tx){b:Tx}(hb:Bl b):ah (x++b)=ah x:=by rw[pL,pL,yL hb]
theorem Nq:Bl [32]:=fun c hc=>by rcases List.mem_singleton.1 hc with rfl;decide
theorem Nc: ∀{l:List Tx},l≠[]->(∀s∈l,bu s)->(aD 124 (dV l++[32])).map ah=l.map ah
 |[],h,_=>absurd rfl h
 | [x],_,h=>by
   rw[xw,wF 124 _ (Nh x (h x (by simp)))];rw[anT,List.map_nil,Wi x Nq];rfl
 | x::y::r,_,h=>by
   have e:dV (x::y::r)++[32]=(x++[32])++124::32::(dV (y::r)++[32]):=by rw[xy];simp
   rw[e,wE 124 _ _ (Nh x (h x (by simp))),anT,VM _ (by decide),Nc (l:=y::r) (by simp) (fun s hs=>h s (by simp at hs ⊢; exact .inr hs)),Wi x Nq];rfl
theorem ajl(i:Nat)(t:ak)(X:Tx): ∃B,aq (lN i t++10::X)=B++59::10::X/\B=(dV (ji i t)++[32]).dropWhile aj:=by
 refine⟨_,?_,rfl⟩;have e:lN i t++10::X=32::((dV (ji i t)++[32])++59::10::X):=by rw[JR];simp
 rw[e];unfold aq;rw[aoG (by decide),Am _ _ (by decide)]
theorem ajj(i:Nat)(t:ak):(10:UInt8)∉(dV (ji i t)++[32]).dropWhile aj:=fun m=>by
 have m2:=(aoI _).subset m;rcases anu.1 m2 with m2|m2
 ·exact Nb (Vk i t) (by decide) (by decide) (by decide) m2
 ·revert m2;decide
theorem Vm(i:Nat)(t:ak)(X:Tx)(h0:t.code≠[]):gp (aq (lN i t++10::X))=true/\aZ (aq (lN i t++10::X))=X/\(gB (aq (lN i t++10::X))).map ah=(ji i t).map ah:=by
 obtain⟨B,e,eB⟩:=ajl i t X;have hno:=ajj i t;rw[<-eB]at hno
 obtain⟨a,b⟩:=Er (L:=B++[59]) X (by
  rw[anu];rintro(h|h)
  ·exact hno h
  ·revert h;decide) (fun c hc=>by rw[ao2]at hc;cases hc;decide)
 rw[show B++[59]++10::X=B++59::10::X by simp]at a b;rw[e];refine⟨by unfold gp;rw[a,ao2];rfl,b,?_⟩;unfold gB;rw[a,List.dropLast_concat,eB,VP];refine Nc (fun h=>h0 ?_) (Vk i t);have:=wA i t;rw[h]at this;exact anx.1 this.symm
inductive sO(af:Int):List Tx->List (List Ins)->List (List Ins)->Prop where
 |nil:sO af [] [] []
 |skip {c:Tx} {L:List Tx} (x:List Ins) {acc out:List (List Ins)} (h:ah c=[]) (t:sO af L acc out):sO af (c::L) (x::acc) (x::out)
 |put {c:Tx} {L:List Tx} (x:List Ins) {acc out:List (List Ins)} {i:Ins} (h:ah c≠[]) (hi:pE af (ah c)=some i) (t:sO af L acc out):sO af (c::L) (x::acc) ((x++[i])::out)
theorem sO.ok{af:Int}{N:Nat}{L:List Tx}{acc out:List (List Ins)}(h:sO af L acc out): ∀v:Tx,dO af N L v acc= .ok out:=by
 induction h with
 |nil=>intro v;rfl
 |skip x h t ih=>intro v;rw[dO,if_pos h,ih]
 |put x h hi t ih=>intro v;rw[dO,if_neg h,hi];dsimp only;rw[ih]
def xG(af:Int)(l:List Ins):List Tx:=l.map fun i=>(dL af i).1
theorem N0{af:Int}(ha:aH af=true)(j:Nat): ∀(cs:List (List Ins)) (L:List Tx),(∀l∈cs,∀i∈l,gF af i=true)->L.map ah=cs.map (fun l=>(xG af l).getD j [])->sO af L (cs.map (·.take j)) (cs.map (·.take (j+1)))
 |[],[],_,_=>.nil
 |[],_::_,_,h=>by cases h
 |_::_,[],_,h=>by cases h
 | l::cs,c::L,hi,h=>by
   simp only[anT,List.cons.injEq]at h⊢;have ih:=N0 ha j cs L (fun l hl=>hi l (by simp[hl])) h.2
   by_cases hj:j<l.length
   ·have e:(xG af l).getD j []=(dL af l[j]).1:=by
     unfold xG;rw[apo,ao7,amK hj];rfl
    have hin:=hi l (by simp) l[j] (apw hj);rw[e]at h;rw[List.take_succ_eq_append_getElem hj];exact .put _ (by rw[h.1];exact(NU ha hin).ne) (by rw[h.1];exact Zh ha hin) ih
   ·have e:(xG af l).getD j []=[]:=by
     unfold xG;rw[apo,ao7,an8 (by omega)];rfl
    rw[e]at h;rw[apq (show l.length<=j by omega),apq (show l.length<=j+1 by omega)];exact .skip _ h.1 ih
theorem ab7(k:Nat):Ends ([80]++cR k):=by
 refine .of ((bu.lit (by decide)).app (Ak k)) ((Dz k).app _) ?_;intro c hc;have:c=80:=by simpa using hc.symm
 subst this;decide
theorem ZE{af:Int}{k:Nat}{l:List Ins}(ha:aH af=true)(h: ∀i∈l,gF af i=true)(j:Nat):Ends ((cm af k l).getD j []):=by
 rw[apo];cases e:(cm af k l)[j]? with
 |none=>exact⟨fun c hc=>(by cases hc),fun c hc=>(by cases hc)⟩
 | some s=>
   have hs:=List.mem_of_getElem? e;show Ends s;unfold cm at hs;rcases amY.1 hs with rfl|hs
   ·exact ab7 k
   ·obtain⟨i,hi,rfl⟩:=apu.1 hs
    exact Zg ha (h i hi)
theorem Vn{t:ak}(ha:aH t.af=true)(hc:Cr t)(i:Nat):(ji i t).map ah=fW i t:=by
 refine aps fun k=>?_
 by_cases hk:k<t.code.length
 ·rw[ao7,Fg i (amK hk),xB i (amK hk)]
  simp only[am7];rw[akS _ (ZE ha (hc _ (apw hk)) i)]
 ·rw[an8 (by rw[ao3,wA];omega),an8 (by rw[rH];omega)]
theorem Zl(j:Nat)(t:ak):fW (j+1) t=(dG t.code).map fun l=>(xG t.af l).getD j []:=by
 refine aps fun k=>?_
 by_cases hk:k<t.code.length
 ·rw[xB (j+1) (amK hk),ao7,tu (amK hk)]
  rfl
 ·rw[an8 (by rw[rH];omega),an8 (by rw[ao3,vm];omega)]
theorem aaX{k:Nat}(h:k<16):anj (k:Int)=cR k:=by
 rw[Ba (by omega) (by omega)];unfold gD;rw[if_neg (by omega),Int.toNat_natCast]
theorem ab9{t:ak}{L:List Tx}(xR:t.code.length<=16)(h:L.map ah=fW 0 t):qg L=true:=by
 unfold qg;rw[anq];intro b hb;obtain⟨k,hk⟩:=List.mem_iff_getElem?.1 hb;rw[List.getElem?_mapIdx]at hk;cases e:L[k]? with
 |none=>rw[e]at hk;cases hk
 | some c=>
   rw[e]at hk
   have hlen:k<t.code.length:=by
    have:=congrArg aoQ h;rw[ao3,rH]at this;rw[<-this];exact(List.getElem?_eq_some_iff.1 e).1
   have h2:=congrArg (·[k]?) h;simp only[ao7,e,am7]at h2;rw[xB 0 (amK hlen)]at h2;have h3:=aoX h2;have:ah c=80::anj (k:Int):=by rw[h3,aaX (by omega)];rfl
   rw[am7,this]at hk;have hk2:=aoX hk;rw[<-hk2];simp
def nw(t:ak):Nat->Nat->Tx->Tx
 |_,0,C=>C
 |j,m+1,C=>lN j t++10::nw t (j+1) m C
theorem Vy(t:ak)(C:Tx): ∀(m j:Nat),((List.range' j m).map fun i=>lN i t).flatMap (fun l=>l++[10])++C=nw t j m C
 |0,j=>rfl
 | m+1,j=>by
   rw[List.range'_succ,anT,List.flatMap_cons,anF,Vy t C m (j+1),anF];rfl
theorem akg(t:ak)(C:Tx):((ig t).flatMap fun l=>l++[10])++C=nw t 0 (pg t+1) C:=by
 rw[<-Vy];unfold ig;rw[List.range_eq_range']
theorem Vz{t:ak}{C:Tx}{N:Nat}(ha:aH t.af=true)(hc:Cr t)(h0:t.code≠[])(hC:gp (aq C)=false): ∀(m n j:Nat),m<=n->jj t.af N n (nw t (j+1) m C) ((dG t.code).map (·.take j))= .ok ((dG t.code).map (·.take (j+m)),C)
 |0,0,j,_=>rfl
 | 0,n+1,j,_=>by
   rw[nw,jj]
   try dsimp only
   rw[if_pos hC];rfl
 |m+1,0,j,h=>absurd h (by omega)
 | m+1,n+1,j,h=>by
   obtain⟨a,b,c⟩:=Vm (j+1) t (nw t (j+1+1) m C) h0;rw[Vn ha hc,Zl]at c;rw[nw,jj]
   try dsimp only
   have hlen:(gB (aq (lN (j+1) t++10::nw t (j+1+1) m C))).length=((dG t.code).map (·.take j)).length:=by
    have:=congrArg aoQ c;simpa using this
   rw[a,if_neg (by decide),if_neg (by rw[hlen];simp),(N0 ha j (dG t.code) _ (fun l hl i hi=>by
    obtain⟨x,hx,rfl⟩:=apu.1 hl;exact hc x hx i hi) c).ok]
   dsimp only
   rw[b,Vz ha hc h0 hC m n (j+1) (by omega),show j+1+m=j+(m+1) by omega]
theorem ajH(r:Tx):aq (10::r)=aq r:=by unfold aq;rw[aoG (by decide)]
theorem akh{t:ak}{C:Tx}(N:Nat)(ha:aH t.af=true)(hc:Cr t)(h0:t.code≠[])(xR:t.code.length<=16)(hC:gp (aq C)=false):gu t.af N (10::(((ig t).flatMap fun l=>l++[10])++C))= .ok (dG t.code,C):=by
 rw[akg];unfold gu
 dsimp only
 rw[ajH,nw];obtain⟨a,b,c⟩:=Vm 0 t (nw t (0+1) (pg t) C) h0;rw[Vn ha hc]at c;rw[a,ab9 xR c,if_neg (by decide),b]
 have hlen:(gB (aq (lN 0 t++10::nw t (0+1) (pg t) C))).length=t.code.length:=by
  have:=congrArg aoQ c
  rwa[ao3,rH]at this
 have e:List.replicate t.code.length []=(dG t.code).map (·.take 0):=by
  refine aps fun k=>?_
  by_cases hk:k<t.code.length
  ·rw[List.getElem?_replicate,if_pos hk,ao7,tu (amK hk)];rfl
  ·rw[an8 (by simp;omega),an8 (by rw[ao3,vm];omega)]
 have hm: ∀(m j:Nat),m<=(nw t j m C).length:=by
  intro m
  induction m with
  |zero=>intro j;exact apj _
  |succ m ih=>intro j;rw[nw];have:=ih (j+1);simp;omega
 rw[hlen,e,Vz ha hc h0 hC _ _ 0 (by have:=hm (pg t) 1;simp;omega),Nat.zero_add]
 congr 2
 refine(List.map_congr_left fun l hl=>?_).trans (List.map_id _);obtain⟨x,hx,rfl⟩:=apu.1 hl;exact apq (acn t hx)
def Hi(b:UInt8):Bool:=nA b||(b==32||(b==47||(b==92||(b==40||(b==41||b==126)))))
def gw(s:Tx):Prop:= ∀b∈s,Hi b=true
theorem gw.app{a b:Tx}(h1:gw a)(h2:gw b):gw (a++b):=fun c hc=>(anu.1 hc).elim (h1 c) (h2 c)
theorem gw.lit{l:Tx}(h:l.all Hi=true):gw l:=fun b hb=>anq.1 h b hb
theorem gw.tok{l:Tx}(h: ∀b∈l,nA b=true):gw l:=fun b hb=>by unfold Hi;rw[h b hb];rfl
theorem gw.dY{s:Tx}(b:Bool)(h:gw s):gw (dY b s):=by
 unfold Go.Proofs.YtkbbgjloifmmbaaGreatDoor.dY;split
 ·exact gw.app (a:=[40]) (.lit (by decide)) (h.app (.lit (by decide)))
 ·exact h
theorem V5{af:Int}{and:Bool}{sep:Tx}(hs:gw sep): ∀{l:List Nd},(∀x∈l,gw (bD af x))->gw (jk af and sep l)
 |[],_=>by rw[lZ];exact fun b hb=>by cases hb
 | x::l,h=>by
   rw[ou];exact hs.app (((h x (by simp)).dY _).app (V5 hs fun y hy=>h y (by simp[hy])))
theorem Lf{af:Int}{and:Bool}{sep:Tx}(hs:gw sep){l:List Nd}(h: ∀x∈l,gw (bD af x)):gw (fG af and sep l):=by
 cases l with
 |nil=>rw[yU];exact fun b hb=>by cases hb
 |cons x l=>rw[pK];exact((h x (by simp)).dY _).app (V5 hs fun y hy=>h y (by simp[hy]))
theorem akm{af:Int}(ha:aH af=true): ∀{x:Nd},bK af x->gw (bD af x):=by
 intro x
 induction x using Nd.ind with
 | h x ih=>
   intro hx;have hk: ∀k∈x.kids,gw (bD af k):=fun k hk=>ih k hk (hx.dm k hk)
   rw[jZ];rcases qp hx.may with⟨h1, -⟩|⟨h1,h2, -⟩|⟨h1, -⟩|⟨h1, -⟩|⟨h1, -⟩
   ·rw[if_pos h1];exact .lit (by decide)
   ·rw[if_neg (by omega),if_pos h1];exact .tok (M6 ha h2)
   ·rw[if_neg (by omega),if_neg (by omega),if_pos h1]
    exact gw.app (a:=[126]) (.lit (by decide)) (Lf (.lit (by decide)) hk)
   ·rw[if_neg (by omega),if_neg (by omega),if_neg (by omega),if_pos h1];exact Lf (.lit (by decide)) hk
   ·rw[if_neg (by omega),if_neg (by omega),if_neg (by omega),if_neg (by omega)];exact Lf (.lit (by decide)) hk
theorem abZ(q:Int):gw (iQ q):=by unfold iQ;split<;>(try split)<;>exact .lit (by decide)
theorem akj{af q:Int}{x:Nd}(h:bF af q x=0):gw (eF af q x):=by
 obtain⟨ha,-, -, ho, -⟩:=rL h;exact((abZ q).app (akm ha ho)).app (.lit (by decide))
theorem ZM{s:Tx}(h:gw s):(10:UInt8)∉s:=fun m=>absurd (h _ m) (by decide)
theorem akk(af q:Int)(x:Nd): ∃c r,eF af q x=c::r/\aj c=false:=by
 unfold eF iQ;split
 ·exact⟨_,_,rfl,by decide⟩
 ·split<;>exact⟨_,_,rfl,by decide⟩
theorem aaI{af q:Int}{x:Nd}(h:bF af q x=0){z:Tx}(hz:Bl z):aq (eF af q x++z)=eF af q x++z/\gp (eF af q x++z)=false:=by
 obtain⟨c,r,e,hc⟩:=akk af q x;refine⟨by rw[e];exact BH _ hc,?_⟩
 have e2:aI (eF af q x++z)=eF af q x:=by
  unfold aI;rw[(uw z (ZM (akj h))).1,yL (Lv hz)];refine EX fun d hd=>?_
  unfold eF at hd;rw[ao2]at hd;cases hd;decide
 unfold gp;rw[e2];unfold eF;rw[ao2];rfl
mutual
theorem PN: ∀(x:Nd) (acc:List Th),kg (aL x) acc=kg x acc
 | .mk k t v a c l,acc=>by rw[aL,kg,kg,PM l]
theorem PM: ∀(l:List Nd) (acc:List Th),eI (dx l) acc=eI l acc
 |[],acc=>by rw[dx]
 |x::r,acc=>by rw[dx,eI,eI,PN x,PM r]
end
theorem akE(q:Int)(x:Nd):jF q (aL x)=jF q x:=by
 unfold jF l8;rw[Hj,PN]
def lA(t:ak):ak:=sn t.af t.name t.aC t.init (dG t.code) t.q (aL t.node)
def qM(t:ak)(x:Nd):ak:=⟨t.af,t.name,t.aC,t.ia,t.ic,t.init,t.ca,t.cc,t.code,t.q,x⟩
theorem YJ(t:ak):lA t=qM (bare t) (aL (bare t).node):=by
 unfold lA sn qM bare nH dG;rw[List.map_map];rfl
theorem akW(u:ak):bI (qM u (aL u.node))=bI u:=by
 have hA:jM (qM u (aL u.node))=jM u:=akE _ _;have hN:gH (qM u (aL u.node))=gH u:=by unfold gH ud;rw[hA];rfl
 have h1:cg (qM u (aL u.node))=cg u:=rfl;have h2:dW (qM u (aL u.node))=dW u:=rfl;have h3:bF (qM u (aL u.node)).af (qM u (aL u.node)).q (qM u (aL u.node)).node=bF u.af u.q u.node:=Hj _ _ _;unfold bI;rw[hA,hN,h1,h2,h3];rfl
theorem Wj(t:ak):bI (lA t)=bI t:=by
 rw[YJ,akW,akV]
def qb(t:ak)(z:Tx):Tx:=DZ t.af++(t.name++10::((if t.aC=[]then[]else[34]++t.aC++[34,10])++123::10::(t.init.flatMap (dI t.af)++125::10::(((ig t).flatMap fun l=>l++[10])++(eF t.af t.q t.node++z)))))
theorem abj(t:ak):mX t=qb t [10]:=by
 unfold mX qb rW jc DZ;simp[anF]
theorem Vs{af:Int}: ∀{l:List Cd},gY af l=0-> ∀x∈l,∀i∈x.l,gF af i=true
 |[],_,x,h=>by cases h
 | y::l,h,x,hx=>by
   unfold gY at h
   split at h
   ·rename_i e
    rcases amY.1 hx with rfl|hx
    ·unfold lW at e
     split at e
     ·rename_i e2;exact anq.1 e2
     ·cases e
    ·exact Vs h x hx
   ·rename_i e;exact absurd h e
theorem ZB{t:ak}(h:cg t=0):Cr t/\t.code≠[]/\t.code.length<=16:=by
 unfold cg at h
 split at h
 ·cases h
 ·rename_i h1
  split at h
  ·cases h
  ·exact⟨Vs h,fun e=>h1 (.inl (by rw[e];simp)),by omega⟩
theorem akX{t:ak}(h:bI t=0):aH t.af=true/\eW t.name=true/\eY t.aC=true/\cg t=0/\dW t=0/\bF t.af t.q t.node=0:=by
 unfold bI at h
 split at h
 ·cases h
 ·rename_i h1
  split at h
  ·cases h
  ·rename_i h2
   split at h
   ·rename_i h3;exact absurd h h3
   ·rename_i h3
    split at h
    ·rename_i h4;exact absurd h h4
    ·rename_i h4
     split at h
     ·rename_i h5;exact absurd h h5
     ·rename_i h5
      refine⟨by simpa using h1,?_,?_,by simpa using h3,by simpa using h4,by simpa using h5⟩
      ·cases e:eW t.name with
       |true=>rfl
       |false=>exact absurd (.inl e) h2
      ·cases e:eY t.aC with
       |true=>rfl
       |false=>exact absurd (.inr e) h2
theorem YP{t:ak}(h:dW t=0): ∀x∈t.init,eT t.af t.code.length x=true:=by
 unfold dW at h
 split at h
 ·cases h
 ·split at h
  ·rename_i h1
   simp only[Bool.and_eq_true]at h1;exact anq.1 h1.1
  ·cases h
theorem Y2{t:ak}(N:Nat)(h:bI t=0)(z:Tx)(hz:Bl z)(hl:(qb t z).length<=262144):jO N (qb t z)= .ok (lA t):=by
 obtain⟨ha,h1,h2,h3,h4,h5⟩:=akX h;obtain⟨c1,c2,c3⟩:=ZB h3;obtain⟨k1,k2⟩:=aaI h5 hz;have li:(t.init.flatMap (dI t.af)).length<=262144:=by unfold qb at hl;simp only[aoE,ans]at hl;omega
 have lc:(eF t.af t.q t.node++z).length<=262144:=by unfold qb at hl;simp only[aoE,ans]at hl ⊢; omega
 refine Nx.2 ⟨_,_,_,_,_,_,_,_,_,_,_,ab6 N _ ha h1,aaO N _ h2,ac6 N ha c3 (YP h4) li _,akh N ha c1 c2 c3 (by rw[k1];exact k2),?_,rfl⟩;unfold kK
 dsimp only
 rw[k1,afC h5 z hz lc]
theorem aif{t:ak}(h:bI t=0)(z:Tx)(hz:Bl z)(hl:(qb t z).length<=262144):gL (qb t z)= .ok (lA t):=
 afG.2 ⟨hl,Y2 _ h z hz hl,by rw[Wj];exact h⟩
theorem agc{t:ak}(h:(iF t).2=0):bI t=0/\(qb t [10]).length<=262144/\(iF t).1=qb t [10]:=by
 unfold iF at h⊢
 split at h
 ·rename_i e;exact absurd h e
 ·rename_i e
  split at h
  ·cases h
  ·rename_i e2
   rw[if_neg e,if_neg e2,<-abj];exact⟨by simpa using e,by omega,rfl⟩
theorem aga{t:ak}(h:(iF t).2=0):gL (iF t).1= .ok (lA t):=by
 obtain⟨a,b,c⟩:=agc h;rw[c];exact aif a [10] (by decide) b
def dB(s:Tx):Int:=s.count 40-s.count 41
theorem xI(a b:Tx):dB (a++b)=dB a+dB b:=by unfold dB;rw[apv,apv];omega
theorem OX{s:Tx}(h:(40:UInt8)∉s)(h2:(41:UInt8)∉s):dB s=0:=by
 unfold dB;rw[apr h,apr h2];rfl
def qN(s:Tx):Prop:=(∀A B,s=A++B->0<=dB A)/\dB s=0
theorem qN.plain{s:Tx}(h:(40:UInt8)∉s)(h2:(41:UInt8)∉s):qN s:=
 ⟨fun A B e=>by rw[OX (fun m=>h (by rw[e];simp[m])) (fun m=>h2 (by rw[e];simp[m]))];omega,OX h h2⟩
theorem qN.app{a b:Tx}(h1:qN a)(h2:qN b):qN (a++b):=by
 refine⟨fun A B e=>?_,by rw[xI,h1.2,h2.2];rfl⟩;rcases apn.1 e with⟨C,e1,e2⟩|⟨C,e1,e2⟩
 ·rw[e1,xI,h1.2];have:=h2.1 C B e2;omega
 ·exact h1.1 A C e1
theorem qN.dY{s:Tx}(b:Bool)(h:qN s):qN (dY b s):=by
 unfold Go.Proofs.YtkbbgjloifmmbaaGreatDoor.dY;split
 ·refine⟨fun A B e=>?_,?_⟩
  ·cases A with
   |nil=>exact Int.le_refl _
   | cons c A=>
     rw[anr,anr]at e;obtain⟨rfl,e0⟩:=aoZ e;have hA:dB (40::A)=1+dB A:=by rw[<-anl,xI];rfl
     rw[hA];rcases apn.1 e0 with⟨C,e1,e2⟩|⟨C,e1,e2⟩
     ·rw[e1,xI,h.2]
      cases C with
      |nil=>show(0:Int)<=1+(0+0);omega
      | cons d C=>
        have hl:=congrArg aoQ e2;rw[aoE]at hl;simp only[ans,List.length_nil]at hl;have hC:C=[]:=anx.1 (by omega);have hd:=(aoZ e2).1;subst hC;subst hd;show(0:Int)<=1+(0+(0-1));omega
     ·have:=h.1 A C e1;omega
  ·rw[<-anl,anF,xI,xI,h.2];rfl
 ·exact h
def ow(s:Tx):Prop:= ∀A B,s=A++40::B->(44:UInt8)∈A
theorem ow.plain{s:Tx}(h:(40:UInt8)∉s):ow s:=fun A B e=>absurd (by rw[e];simp) h
theorem ow.app{a b:Tx}(h1:ow a)(h2:ow b):ow (a++b):=by
 intro A B e;rcases apn.1 e with⟨C,e1,e2⟩|⟨C,e1,e2⟩
 ·rw[e1];have:=h2 C B e2;simp[this]
 ·cases C with
  | nil=>
    rw[List.append_nil]at e1;have:=h2 [] B (by rw[anJ]at e2 ⊢; exact e2.symm);cases this
  | cons d C=>
    rw[anr]at e2;obtain⟨rfl,e3⟩:=aoZ e2;exact h1 A C e1
theorem ow.comma{a b:Tx}(h1:(40:UInt8)∉a):ow (a++44::b):=by
 intro A B e;rcases apn.1 e with⟨C,e1,e2⟩|⟨C,e1,e2⟩
 ·cases C with
  |nil=>exact absurd (aoZ e2).1 (by decide)
  |cons d C=>rw[anr]at e2;rw[e1,<-(aoZ e2).1];simp
 ·exfalso
  cases C with
  |nil=>exact absurd (aoZ e2).1 (by decide)
  | cons d C=>
    rw[anr]at e2;rw[e1,(aoZ e2).1.symm]at h1;exact h1 (by simp)
theorem ow.pre{p r:Tx}(h:ow (p++r)):ow p:=fun A B e=>h A (B++r) (by rw[e];simp)
theorem WQ{d:Nat->Nat}: ∀{l:List Tok},(∀t∈l,d t.2=t.2)->zP d l=l
 |[],_=>rfl
 |t::l,h=>by rw[Cm,WQ fun u hu=>h u (by simp[hu]),h t (by simp)]
theorem JQ: ∀(n p:Nat) (s:Tx),s.length<=n-> ∀t∈lex p s,t.2<=p+s.length
 |_,p,[],_,t,ht=>by rw[lex_nil]at ht;cases ht
 |0,_,_::_,h,_,_=>absurd h (by simp)
 | n+1,p,c::r,h,t,ht=>by
   simp only[ans]at h⊢;cases hb:aj c with
   |true=>rw[yx p r hb]at ht;have:=JQ n (p+1) r (by omega) t ht;omega
   | false=>
     have hp:=mB c r;have hle:=tZ c r;rw[Bh p r hb]at ht;rcases amY.1 ht with rfl|ht
     ·simp only;omega
     ·have:=JQ n _ _ (by simp;omega) t ht
      simp only[aoJ,ans]at this;omega
theorem T9{af:Int}{s:Tx}{e:Int}{k:Nat}(h:cM af s= .error (e,k)):k<=s.length:=by
 unfold cM at h
 split at h
 ·cases h;exact apj _
 ·split at h
  ·cases h;exact apj _
  ·split at h
   ·rename_i l hl
    cases h;have hz:zP (fun n=>min n s.length) (lex 0 s)=lex 0 s:=WQ fun t ht=>by have:=JQ _ 0 s (Nat.le_refl _) t ht;omega
    have:=OH af (fun n=>min n s.length) (lex 0 s);rw[hz,hl]at this;have e2:l=zP (fun n=>min n s.length) l:=by injection this
    cases l with
    |nil=>exact Nat.le_refl _
    | cons t l=>
      rw[Cm]at e2;have e3:=congrArg Prod.snd (aoZ e2).1;show t.2<=s.length;simp only at e3;omega
   ·split at h
    ·cases h
    ·cases h;exact apj _
theorem ab3{N:Nat}{r n r1:Tx}{a:Int}(h:gE N r= .ok (a,n,r1)):r1=aZ (aq r):=by
 unfold gE at h
 dsimp only at h
 split at h
 ·cases h
 ·split at h
  ·cases h
  ·cases h;rfl
theorem aaR{N:Nat}{r c r1:Tx}(h:eP N r= .ok (c,r1)):(r1=r/\(aI (aq r)).head?≠some 34)\/r1=aZ (aq r):=by
 unfold eP at h
 dsimp only at h
 split at h
 ·rename_i h0;cases h;exact .inl ⟨rfl,h0⟩
 ·split at h
  ·cases h
  ·cases h;exact .inr rfl
theorem ac3{af:Int}{N:Nat}{r r1:Tx}{l:List aF}(h:fD af N r= .ok (l,r1)):(aq r).head?=some 123/\(125:UInt8)∈aq r/\r1.length<=r.length:=by
 unfold fD at h
 dsimp only at h
 split at h
 ·cases h
 ·rename_i h0
  rw[not_or]at h0
  split at h
  ·cases h
  ·cases h
   refine⟨apt h0.1,apt h0.2,?_⟩;have a:=(aoI (l:=aq r) (· != 125)).length_le;have b:=yS r;rw[aoJ];omega
end Go.Proofs.YtkbbgjloifmmbaaGreatDoor
