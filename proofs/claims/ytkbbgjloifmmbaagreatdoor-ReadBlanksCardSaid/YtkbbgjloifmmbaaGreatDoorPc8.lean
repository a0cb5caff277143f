/- What ReadBlanksP leans on, part 8. -/
import Derived.Test.YtkbbgjloifmmbaaGreatDoorPc5
import Derived.Test.YtkbbgjloifmmbaaGreatDoorPc6
import Derived.Deep.DeepCutAuto
import Derived.Maps.OwnSet
import Derived.Maps.Views
import Derived.Lib.Bytealg
set_option linter.unusedVariables false
set_option maxRecDepth 100000
set_option maxHeartbeats 12800000
open _root_.Go.Proofs.Tryz
open _root_.List renaming getElem?_eq_some_iff->anx,getElem?_eq_getElem->am9,pairwise_cons->anD,findIdx?_eq_some_iff_getElem->aqy,mem_cons->anE,cons_append->aod,take_succ_eq_append_getElem->anH,take_of_length_le->ap8,drop_of_length_le->aqz,eq_nil_of_length_eq_zero->ane,take_append_drop->aoT,flatMap_append->aqt,drop_eq_getElem_cons->aoI,length_take->ao2,length_append->aoW,getElem?_append_right->aqD,flatMap_cons->aqE,getElem?_append_left->aqF,findIdx?_eq_none_iff->aos,range->apO,length_cons->ans,mem_append->aok,mem_iff_getElem->aoz,takeWhile_cons->aom,getElem_drop->aor,not_mem_nil->aoa,any_eq_true->an1,all_eq_true->anF,take_left'->aqK,drop_left'->aqL,append_nil->aoQ,nil_append->anu
open _root_.Bool renaming eq_false_iff->ao9,and_eq_true->anS,eq_iff_iff->an8,not_eq_true'->anQ
open _root_.UInt8 renaming lt_iff_toNat_lt->aqA,toNat_inj->aph
open _root_.Nat renaming mul_le_mul_right->aqB,min_eq_left->aqC,zero_mul->ap7,succ_mul->aqI,lt_of_lt_of_le->anW
open _root_.Go.Instr renaming indexAt->anm
open _root_.ByteArray renaming empty->an3
open _root_.Go.Lib renaming compareBytes->aqG
open _root_.Go.World renaming cell?->anq
open _root_.Option renaming map_eq_some_iff->aqH
open _root_.List.Pairwise renaming nil->aqJ
namespace Go.Proofs.YtkbbgjloifmmbaaGreatDoor
open Go.RowKit
variable{D:DataW Unit}{e:Ending}{i:ay}{p:ay->Bool}{d ai ag op:Int}{code:List ay}{l:List Value}{b k m:Nat}{r:Option ay}{s:Tx}{t:TypeId}{v0 v1 v10 v11 v12 v13 v2 v3 v4 v5 v6 v7 v8 v9:Value}{w w':World}
theorem bS.ri{a:Option Addr}{l:List Tx}(h:bS w a l){u:Tx}(hu:l[k]? =some u):w.cell? ⟨bk a,fo a+k,none⟩=some (.string (tx u)):=by
 obtain⟨hk,rfl⟩:=anx.1 hu;exact h.cell k hk
def nL:List Tx:=[[114],[119],[114,119]]
theorem XO(w:World):Calls prog 251 #[] w fun e w'=> ∃a,e= .returned (.slice a 3 3)/\bS w' a nL/\Below w.heap.size w w':=by
 refine(ahx w).mono fun e w' hh=>?_
 obtain⟨he,rfl⟩:=hh;refine⟨_,he,⟨⟨fun _=>rfl,fun i hi=>?_⟩,by decide⟩,al _ _⟩;have hh:=heap_alloc_new w (.cells #[.string ⟨#[114]⟩,.string ⟨#[119]⟩,.string ⟨#[114,119]⟩] 9);simp only[anq,gv,gX,hh];have hi:i=0\/i=1\/i=2:=by simp[nL]at hi;omega
 rcases hi with rfl|rfl|rfl<;>rfl
theorem Xv{a:Option Addr}(h:bS w a nL)(k:Nat)(hk:k<3): ∀c w',(anm 42 (.slice a 3 c) (.int .i64 k)).run prog w'= .ok (.pointer (some ⟨bk a,fo a+k,none⟩)) w':=h.idx k hk
def xx(x y:Tx)(k j:Nat):Prop:= ∀k' j',k'<3->j'<3->(k'<k\/(k'=k/\j'<j))-> ¬(nL[k']? =some x/\nL[j']? =some y)
def aai(x y:Tx)(w:World)(e:Ending)(w':World):Prop:=
 ((∃k j:Nat,k<3/\j<3/\nL[k]? =some x/\nL[j]? =some y/\e= .returned (.tuple #[.agg #[.int .i64 13,.int .i64 0,.int .i64 0,.int .i64 0,.int .i64 0,.string ⟨#[]⟩,.string ⟨#[]⟩,.int .i64 (3+3*(k:Int)+j)],.bool true]))\/
  (xx x y 3 0/\e= .returned (.tuple #[.agg #[.int .i64 0,.int .i64 0,.int .i64 0,.int .i64 0,.int .i64 0,.string ⟨#[]⟩,.string ⟨#[]⟩,.int .i64 0],.bool false])))/\Below w.heap.size w w'
theorem ag7(n c:Nat)(a:Option Addr)(hn:n≠2)(w:World):Calls prog 183 #[.slice a n c] w (lg w 0 0 0 0 0 ⟨#[]⟩ ⟨#[]⟩ 0 false):=by
 have z:((n:Int) != 2)=true:=ah;clear hn;go_in;go_wp2;exact bodyPost_ret (by simp[results,results183,go_sem]) rfl ⟨rfl,aF⟩
theorem ag6(x y:Tx)(a:Option Addr)(c:Nat)(w:World)(h:bS w a [x,y])(hs:Sm [x,y]):
 Calls prog 183 #[.slice a 2 c] w (aai (ak x) (ak y) w):=by
 have X:=hid (rT x (hs.at x (by simp)));have Y:=hid (rT y (hs.at y (by simp)));have i0: ∀c w',(anm 42 (.slice a 2 c) (.int .i64 0)).run prog w'= .ok (.pointer (some ⟨bk a,fo a,none⟩)) w':=fun c w'=>h.idx 0 (by simp) c w'
 have i1: ∀c w',(anm 42 (.slice a 2 c) (.int .i64 1)).run prog w'= .ok (.pointer (some ⟨bk a,fo a+1,none⟩)) w':=fun c w'=>h.idx 1 (by simp) c w'
 generalize ak x=tO at*;generalize ak y=ty' at*;have E0:Below (w.alloc bR).heap.size (w.alloc bR) (w.alloc bR):=Below.refl _ _;have HW:=hid (al w bR);go_in;go_wp2_with fail;refine(XO _).mono ?_;rintro e w1 ⟨a1,rfl,p1,E⟩;have E1:=E0.trans E;clear E0 E;go_wp2
 go_loopw [14] (fun i wr=> ∃k:Nat,k<=3/\i= .int .i64 k/\Hid (xx tO ty' k 0)/\bS wr a1 nL/\Below (w.alloc bR).heap.size (w.alloc bR) wr) (fun i _=>3-(intOf i).toNat)
 ·exact⟨0,by omega,rfl,fun k' j' _ _ h=>by omega,p1,E1⟩
 clear p1 E1;obtain⟨k,hk,rfl,HN,p,E⟩:=hrel
 by_cases hlk:k<3
 ·obtain⟨u,hu⟩: ∃u,nL[k]? =some u:=⟨_,am9 hlk⟩
  have HU:=hid hu;have ik:=Xv p k hlk;have ck: ∀W,Below wr.heap.size wr W->W.cell? ⟨bk a1,fo a1+k,none⟩=some (.string (tx u)):=fun W hW=>(p.below hW).ri hu
  have ck0:=ck wr (Below.refl _ _);clear hu ck;go_wp2_with fail;refine(XO _).mono ?_;rintro e w2 ⟨a2,rfl,p2,E2⟩;have p:=p.below E2;have E:=E.trans (E2.mono E.size);clear E2 ck0;go_wp2
  go_loopw [21] (fun i wr=> ∃j:Nat,j<=3/\i= .int .i64 j/\Hid (xx tO ty' k j)/\bS wr a1 nL/\bS wr a2 nL/\Below (w.alloc bR).heap.size (w.alloc bR) wr) (fun i _=>3-(intOf i).toNat)
  ·exact⟨0,by omega,rfl,HN,p,p2,E⟩
  clear p p2 E;obtain⟨j,hj,rfl,gI,p,p2,E⟩:=hrel
  by_cases K8:j<3
  ·obtain⟨v,hv⟩: ∃v,nL[j]? =some v:=⟨_,am9 K8⟩
   have HV:=hid hv;have ij:=Xv p2 j K8;have cj:wr.cell? ⟨bk a2,fo a2+j,none⟩=some (.string (tx v)):=p2.ri hv;have hB:Below w.heap.size w wr:=HW.out.trans (E.mono HW.out.size);have hT:=h.below hB;have c0:wr.cell? ⟨bk a,fo a,none⟩=some (.string (tx x)):=hT.cell 0 (by simp);clear hv hB
   by_cases hx:tO=u
   ·have z1:((tx tO).toList==(tx u).toList)=true:=by rw[iQ];simpa using hx
    by_cases hy:ty'=v
    ·have z2:((tx ty').toList==(tx v).toList)=true:=by rw[iQ];simpa using hy
     have HF:=hid (show nL[k]? =some tO/\nL[j]? =some ty' by rw[HU.out,HV.out,hx,hy];exact⟨rfl,rfl⟩);clear hx hy;go_wp2_with fail;refine(X.out _).mono ?_;rintro e w3 ⟨rfl,E3⟩;have hT:=hT.below E3;have E:=E.trans (E3.mono E.size);have c1:w3.cell? ⟨bk a,fo a+1,none⟩=some (.string (tx y)):=hT.cell 1 (by simp);have p2:=p2.below E3;have cj:w3.cell? ⟨bk a2,fo a2+j,none⟩=some (.string (tx v)):=p2.ri HV.out;clear E3 c0;go_wp2_with fail;refine(Y.out _).mono ?_;rintro e w4 ⟨rfl,E4⟩;have E:=E.trans (E4.mono E.size);obtain⟨⟨d0,d1,d2,d3,d4,d5,d6,d7⟩,hf,hlt,B⟩:=dR E;clear E4 E c1 cj hT HN gI p2 p;go_wp2;exact bodyPost_ret (by simp[results,results183,go_sem,d0,d1,d2,d3,d4,d5,d6,d7]) rfl ⟨.inl ⟨k,j,hlk,K8,HF.out.1,HF.out.2,rfl⟩,aF⟩
    have z2:((tx ty').toList==(tx v).toList)=false:=mY hy
    have Aa:=hid (show xx tO ty' k (j+1)from fun k' j' h1 h2 h3=>by
     by_cases hc:k'=k/\j'=j
     ·rintro⟨-, h5⟩;rw[hc.2,HV.out]at h5;cases h5;exact hy rfl
     exact gI.out k' j' h1 h2 (by omega))
    clear hx hy;go_wp2_with fail;refine(X.out _).mono ?_;rintro e w3 ⟨rfl,E3⟩;have hT:=hT.below E3;have E:=E.trans (E3.mono E.size);have c1:w3.cell? ⟨bk a,fo a+1,none⟩=some (.string (tx y)):=hT.cell 1 (by simp);have p2:=p2.below E3;have p:=p.below E3;clear E3 c0;go_wp2_with fail;refine(Y.out _).mono ?_;rintro e w4 ⟨rfl,E4⟩;have E:=E.trans (E4.mono E.size);have p2:=p2.below E4;have p:=p.below E4;clear E4 c1 cj hT HN gI;go_wp2
    go_roundw;exact⟨j+1,by omega,by go_num,Aa,p,p2,E⟩;simp[intOf];omega
   have z1:((tx tO).toList==(tx u).toList)=false:=mY hx
   have Aa:=hid (show xx tO ty' k (j+1)from fun k' j' h1 h2 h3=>by
    by_cases hc:k'=k/\j'=j
    ·rintro⟨h5, -⟩;rw[hc.1,HU.out]at h5;cases h5;exact hx rfl
    exact gI.out k' j' h1 h2 (by omega))
   clear hx;go_wp2_with fail;refine(X.out _).mono ?_;rintro e w3 ⟨rfl,E3⟩;have E:=E.trans (E3.mono E.size);have p2:=p2.below E3;have p:=p.below E3;clear E3 c0 cj hT HN gI;go_wp2
   go_roundw;exact⟨j+1,by omega,by go_num,Aa,p,p2,E⟩;simp[intOf];omega
  obtain rfl:j=3:=by omega
  have Aa:=hid (show xx tO ty' (k+1) 0 from fun k' j' h1 h2 h3=>gI.out k' j' h1 h2 (by omega));go_wp2
  go_roundw;exact⟨k+1,by omega,by go_num,Aa,p,E⟩;simp[intOf];omega
 obtain rfl:k=3:=by omega
 obtain⟨⟨d0,d1,d2,d3,d4,d5,d6,d7⟩,hf,hlt,B⟩:=dR E;clear E;go_wp2;exact bodyPost_ret (by simp[results,results183,go_sem,d0,d1,d2,d3,d4,d5,d6,d7]) rfl ⟨.inr ⟨HN,rfl⟩,aF⟩
def Rd(r:Option ay)(w:World)(e:Ending)(w':World):Prop:=
 ∃(op d a b ag:Int) (label:Tx) (ai:Int) (ok:Bool),e= .returned (.tuple #[.agg #[.int .i64 op,.int .i64 d,.int .i64 a,.int .i64 b,.int .i64 ag,.string ⟨#[]⟩,.string (tx label),.int .i64 ai],.bool ok])/\dX ⟨op,d,a,b,ag,[],label,ai⟩ ok=r/\label.length<=1000000/\Below w.heap.size w w'
theorem Rd.of{a b:Int}{ok:Bool}(h:lg w op d a b ag ⟨#[]⟩ ⟨#[]⟩ ai ok e w')(hk:dX ⟨op,d,a,b,ag,[],[],ai⟩ ok=r):Rd r w e w':=
 ⟨op,d,a,b,ag,[],ai,ok,h.1,hk,by simp,h.2⟩
theorem kI: ∀n,bf s=some n->n<32:=fun n h=>(GO h).1
theorem EM: ∀n,ez s=some n->n<32:=fun n h=>Ji h
theorem rM{l:List Tx}(h:l.length=2): ∃x y,l=[x,y]:=by
 match l,h with
 |[x,y],_=>exact⟨x,y,rfl⟩
theorem yA{l:List Tx}(h:l.length=3): ∃x y z,l=[x,y,z]:=by
 match l,h with
 |[x,y,z],_=>exact⟨x,y,z,rfl⟩
theorem Nt(x y:Tx):dZ [108,119] [x,y]=match bf x,ez y with
 |some d,some a=>some ⟨6,d,a,0,0,[],[],0⟩
 |_,_=>none:=by unfold dZ;rw[if_pos rfl];rfl
theorem Nv(x y:Tx):dZ [115,119] [x,y]=match bf x,ez y with
 |some d,some a=>some ⟨7,0,a,d,0,[],[],0⟩
 |_,_=>none:=by unfold dZ;rw[if_neg (by decide),if_pos rfl];rfl
theorem Nu{l:List Tx}(h:l.length≠2):dZ [108,119] l=none:=by
 unfold dZ;rw[if_pos rfl]
 match l with
 |[]=>rfl
 |[_]=>rfl
 |[_,_]=>simp at h
 |_::_::_::_=>rfl
theorem Nw{l:List Tx}(h:l.length≠2):dZ [115,119] l=none:=by
 unfold dZ;rw[if_neg (by decide),if_pos rfl]
 match l with
 |[]=>rfl
 |[_]=>rfl
 |[_,_]=>simp at h
 |_::_::_::_=>rfl
theorem afW(l:List Tx)(a:Option Addr)(c:Nat)(w:World)(h:bS w a l)(hs:Sm l):Calls prog 182 #[.string (tx [108,119]),.slice a l.length c] w (Rd (dZ [108,119] (l.map ak)) w):=by
 by_cases hl:l.length=2
 ·obtain⟨x,y,rfl⟩:=rM hl
  refine(ahq [108,119] x y rfl a c w h hs).mono fun e w' hh=>Rd.of hh ?_
  rw[show[x,y].map ak=[ak x,ak y]from rfl,Nt,QH];exact Vw kI EM
 refine(XK [108,119] l.length c a hl w).mono fun e w' hh=>Rd.of hh ?_
 rw[Nu (by simpa using hl)];rfl
theorem afX(l:List Tx)(a:Option Addr)(c:Nat)(w:World)(h:bS w a l)(hs:Sm l):Calls prog 182 #[.string (tx [115,119]),.slice a l.length c] w (Rd (dZ [115,119] (l.map ak)) w):=by
 by_cases hl:l.length=2
 ·obtain⟨x,y,rfl⟩:=rM hl
  refine(ahr [115,119] x y (by decide) a c w h hs).mono fun e w' hh=>Rd.of hh ?_
  rw[show[x,y].map ak=[ak x,ak y]from rfl,Nv,QH];exact Vx kI EM
 refine(XK [115,119] l.length c a hl w).mono fun e w' hh=>Rd.of hh ?_
 rw[Nw (by simpa using hl)];rfl
theorem Nr(x y:Tx):dZ [102,101,110,99,101] [x,y]=match lH x,lH y with
 |some k,some j=>some ⟨13,0,0,0,0,[],[],3+3*k+j⟩
 |_,_=>none:=by unfold dZ;rw[if_neg (by decide),if_neg (by decide),if_pos rfl];rfl
theorem Ns{l:List Tx}(h:l.length≠2):dZ [102,101,110,99,101] l=none:=by
 unfold dZ;rw[if_neg (by decide),if_neg (by decide),if_pos rfl]
 match l with
 |[]=>rfl
 |[_]=>rfl
 |[_,_]=>simp at h
 |_::_::_::_=>rfl
theorem acH(l:List Tx)(a:Option Addr)(c:Nat)(w:World)(h:bS w a l)(hs:Sm l):Calls prog 183 #[.slice a l.length c] w (Rd (dZ [102,101,110,99,101] (l.map ak)) w):=by
 by_cases hl:l.length=2
 ·obtain⟨x,y,rfl⟩:=rM hl
  refine(ag6 x y a c w h hs).mono fun e w' hh=>?_
  rw[show[x,y].map ak=[ak x,ak y]from rfl,Nr];obtain⟨h1|h1,hb⟩:=hh
  ·obtain⟨k,j,hk,hj,hx,hy,he⟩:=h1
   rw[Tc k _ hx,Tc j _ hy];exact Rd.of ⟨he,hb⟩ (Cf (by rw[JH];simp;omega))
  obtain⟨hn,he⟩:=h1
  refine Rd.of ⟨he,hb⟩ ?_;rw[Ma];cases h2:lH (ak x)with
  |none=>rfl
  | some k=>cases h3:lH (ak y)with
    |none=>rfl
    | some j=>
      obtain⟨k',hk',-, ex⟩:=vJ h2;obtain⟨j',hj',-, ey⟩:=vJ h3;exact absurd ⟨ex,ey⟩ (hn k' j' hk' hj' (.inl hk'))
 refine(ag7 l.length c a hl w).mono fun e w' hh=>Rd.of hh ?_
 rw[Ns (by simpa using hl)];rfl
theorem Rd.map{r':Option ay}(h:Rd r w e w')(hr:r=r'):Rd r' w e w':=hr▸h
theorem ahz(l:List Tx)(a:Option Addr)(c:Nat)(w:World)(h:bS w a l)(hs:Sm l):Calls prog 102 #[.string (tx [108,119]),.slice a l.length c] w (Rd (dZ [108,119] (l.map ak)) w):=by
 have z1:((tx [108,119]).toList==[108,119])=true:=by rw[bh];rfl
 have C:=hid (afW l a c (w.alloc bR) (h.below (al _ _)) hs);generalize dZ [108,119] (l.map ak)=r at*;generalize l.length=n at*;go_in;go_wp2_with fail;refine C.out.mono ?_;rintro e w1 ⟨op,d,a1,b,ag,label,ai,ok,rfl,hk,hl,E⟩;obtain⟨⟨d0,d1,d2,d3,d4,d5,d6,d7⟩,hf,hlt,B⟩:=dR E;have HK:=hid hk;clear hk E h hs;go_wp2;exact bodyPost_ret (by simp[results,results102,go_sem,d0,d1,d2,d3,d4,d5,d6,d7]) rfl ⟨op,d,a1,b,ag,label,ai,ok,rfl,HK.out,hl,aF⟩
theorem yT{op:Tx}{l:List Tx}(h1:op≠[108,119])(h2:op≠[115,119])(h3:op≠[102,101,110,99,101])(h:l.length≠3):dZ op l=none:=by
 unfold dZ;rw[if_neg h1,if_neg h2,if_neg h3]
 match l with
 |[]=>rfl
 |[_]=>rfl
 |[_,_]=>rfl
 |[_,_,_]=>simp at h
 |_::_::_::_::_=>rfl
theorem yS{op:Tx}(x y z:Tx)(h1:op≠[108,119])(h2:op≠[115,119])(h3:op≠[102,101,110,99,101]):dZ op [x,y,z]=match bf x,bf y with
 | some a,some b=>
   if op=[98,110,101]then(if aC z then some ⟨11,0,a,b,0,[],z,0⟩else none)
   else if op=[111,114,105]then(match lM z with
    |some n=>some ⟨8,a,b,0,n,[],[],0⟩
    |none=>none)
   else match bf z with
    |some c=>if op=[120,111,114]then some ⟨9,a,b,c,0,[],[],0⟩else if op=[97,100,100]then some ⟨10,a,b,c,0,[],[],0⟩else none
    |none=>none
 |_,_=>none:=by
 unfold dZ;rw[if_neg h1,if_neg h2,if_neg h3];rfl
theorem cY(op q:Tx)(h:op≠q):((tx op).toList==q)=false:=by rw[bh];simpa using h
theorem rY(op q:Tx)(h:op=q):((tx op).toList==q)=true:=by rw[bh];simpa using h
theorem ajt(op:Tx)(l:List Tx)(a:Option Addr)(c:Nat)(w:World)(h:bS w a l)(hs:Sm l)(h1:op≠[108,119])(h2:op≠[115,119])(h3:op≠[102,101,110,99,101]):
 ∃ (P Q:Int) (tz:Tx) (ok:Bool),Calls prog 184 #[.slice a l.length c] w (aJ w (.tuple #[.int .i64 P,.int .i64 Q,.string (tx tz),.bool ok]))/\
   (ok=false/\dZ op (l.map ak)=none\/ok=true/\ ∃p q:Nat,P=p/\Q=q/\p<32/\q<32/\ak tz=tz/\tz.length<=1000000/\dZ op (l.map ak)=
    if op=[98,110,101]then(if aC tz then some ⟨11,0,p,q,0,[],tz,0⟩else none)
    else if op=[111,114,105]then(match lM tz with
     |some n=>some ⟨8,p,q,0,n,[],[],0⟩
     |none=>none)
    else match bf tz with
     |some c=>if op=[120,111,114]then some ⟨9,p,q,c,0,[],[],0⟩else if op=[97,100,100]then some ⟨10,p,q,c,0,[],[],0⟩else none
     |none=>none):=by
 by_cases hl:l.length=3
 ·obtain⟨x,y,z,rfl⟩:=yA hl
  refine⟨_,_,_,_,ahA x y z a c w h hs,?_⟩;rw[show[x,y,z].map ak=[ak x,ak y,ak z]from rfl,yS _ _ _ h1 h2 h3];cases hx:bf (ak x)with
  |none=>exact .inl ⟨rfl,rfl⟩
  | some p=>cases hy:bf (ak y)with
    |none=>exact .inl ⟨rfl,rfl⟩
    |some q=>exact .inr ⟨rfl,p,q,rfl,rfl,kI p hx,kI q hy,ZI z,Nat.le_trans (jS z) (hs z (by simp)),rfl⟩
 exact⟨0,0,[],false,ahB l.length c a hl w,.inl ⟨rfl,yT h1 h2 h3 (by simpa using hl)⟩⟩
theorem ahy(op:Tx)(l:List Tx)(a:Option Addr)(c:Nat)(w:World)(h:bS w a l)(hs:Sm l)(g:Gl w):Calls prog 102 #[.string (tx op),.slice a l.length c] w (Rd (dZ op (l.map ak)) w):=by
 by_cases h1:op=[108,119]
 ·subst h1;exact ahz l a c w h hs
 have z1:=cY _ _ h1
 by_cases h2:op=[115,119]
 focus
  have z2:=rY _ _ h2;have C:=hid (afX l a c (w.alloc bR) (h.below (al _ _)) hs);rw[<-h2]at C;clear h2
 rotate_left
 have z2:=cY _ _ h2
 by_cases h3:op=[102,101,110,99,101]
 focus
  have z3:=rY _ _ h3;have C:=hid (acH l a c (w.alloc bR) (h.below (al _ _)) hs);rw[<-h3]at C;clear h2 h3
 rotate_left
 ·have z3:=cY _ _ h3
  obtain⟨P,Q,tz,ok,C,H⟩:=ajt op l a c (w.alloc bR) (h.below (al _ _)) hs h1 h2 h3;have C:=hid C;have H:=hid H;have g1:=hid (g.below (al w bR));generalize dZ op (l.map ak)=r at*;generalize l.length=n at*;have HZ:=hid (fun q=>cY op q);have HY:=hid (fun q=>rY op q);clear h1 h2 h3 h hs g;go_in;go_wp2_with fail;refine C.out.mono ?_;rintro e w1 ⟨rfl,E⟩;rcases H.out with⟨rfl,hr⟩|⟨rfl,p,q,rfl,rfl,hp,hq,hz,hzl,hr⟩
  ·have HK:=hid (show dX ⟨0,0,0,0,0,[],[],0⟩ false=r from hr.symm)
   obtain⟨⟨d0,d1,d2,d3,d4,d5,d6,d7⟩,hf,hlt,B⟩:=dR E;clear E H hr;go_wp2;exact bodyPost_ret (by simp[results,results102,go_sem,d0,d1,d2,d3,d4,d5,d6,d7]) rfl (Rd.of ⟨rfl,aF⟩ HK.out)
  clear H
  by_cases h4:op=[98,110,101]
  ·have z4:=HY.out _ h4
   rw[if_pos h4]at hr;have HK:=hid ((Vv (z:=tz) hp hq).trans hr.symm);obtain⟨⟨d0,d1,d2,d3,d4,d5,d6,d7⟩,hf,hlt,B⟩:=dR E;clear E hr h4 hz;go_wp2;exact bodyPost_ret (by simp[results,results102,go_sem,d0,d1,d2,d3,d4,d5,d6,d7]) rfl ⟨_,_,_,_,_,tz,_,_,rfl,HK.out,hzl,aF⟩
  have z4:=HZ.out _ h4;rw[if_neg h4]at hr;have g2:=g1.out.below E
  by_cases h5:op=[111,114,105]
  ·have z5:=HY.out _ h5
   rw[if_pos h5]at hr
   by_cases hv: ∃v,Lib.atoiAll tz= .ok v
   ·obtain⟨v,hv⟩:=hv
    obtain⟨b1,b2⟩:=Lib.atoiAll_bounds hv;have AT:=hid (ER tz hzl v hv);have HK:=hid ((aeD hp hq hv).trans hr.symm);have IT:=hid (fun(w:World) (g:Gl w)=>yq v b1 b2 w g);obtain⟨u,hu⟩:=aj (Lib.itoa v);rw[hu]at HK IT;have hz:((tx u).toList==(tx tz).toList)=(u==tz):=iQ u tz;generalize (u==tz)=bb at*;clear hu hv b1 b2 hr h4 h5;go_wp2_with fail;refine(AT.out _).mono ?_;rintro e w2 ⟨rfl,E2⟩;have g3:=g2.below E2;have E:=aB E E2;go_wp2_with fail;refine(IT.out _ g3).mono ?_;rintro e w3 ⟨rfl,E3⟩;have E:=aB E E3;obtain⟨⟨d0,d1,d2,d3,d4,d5,d6,d7⟩,hf,hlt,B⟩:=dR E;clear E;go_wp2;exact bodyPost_ret (by simp[results,results102,go_sem,d0,d1,d2,d3,d4,d5,d6,d7]) rfl (Rd.of ⟨rfl,aF⟩ HK.out)
   have AT:=hid (EO tz hzl (fun v e=>hv ⟨v,e⟩))
   have HKn:=hid (show ∀n,dX ⟨8,p,q,0,n,[],[],0⟩ false=r from fun n=>by rw[hr,agl (fun v e=>hv ⟨v,e⟩)];rfl);clear hv hr h4 h5;go_wp2_with fail;refine(AT.out _ g2).mono ?_;rintro e w2 ⟨n,tp,pp,rfl,E2⟩;have HK:=hid (HKn.out n);have E:=aB E E2;obtain⟨⟨d0,d1,d2,d3,d4,d5,d6,d7⟩,hf,hlt,B⟩:=dR E;clear E;go_wp2;exact bodyPost_ret (by simp[results,results102,go_sem,d0,d1,d2,d3,d4,d5,d6,d7]) rfl (Rd.of ⟨rfl,aF⟩ HK.out)
  have z5:=HZ.out _ h5;rw[if_neg h5]at hr;have RG:=hid (yM tz (by omega));rw[hz]at RG
  by_cases h6:op=[120,111,114]
  focus
   have z6:=HY.out _ h6;have HK:=hid ((Mb (op:=9) (by omega) hp hq (o:=bf tz) kI).trans (show _=r by rw[hr];simp only[if_pos h6];cases bf tz<;>rfl))
   clear h6
  rotate_left
  have z6:=HZ.out _ h6
  by_cases h7:op=[97,100,100]
  focus
   have z7:=HY.out _ h7;have HK:=hid ((Mb (op:=10) (by omega) hp hq (o:=bf tz) kI).trans (show _=r by rw[hr];simp only[if_neg h6,if_pos h7];cases bf tz<;>rfl))
   clear h6 h7
  rotate_left
  focus
   have z7:=HZ.out _ h7;have HK:=hid (show dX ⟨0,0,0,0,0,[],[],0⟩ false=r by rw[hr];simp only[if_neg h6,if_neg h7];cases bf tz<;>rfl)
   clear h6 h7
  all_goals
   clear hr h4 h5 hz;generalize bf tz=rz at*;go_wp2_with fail;refine(RG.out _).mono ?_;rintro e w2 ⟨rfl,E2⟩;have E:=aB E E2;obtain⟨⟨d0,d1,d2,d3,d4,d5,d6,d7⟩,hf,hlt,B⟩:=dR E;clear E E2;go_wp2;exact bodyPost_ret (by simp[results,results102,go_sem,d0,d1,d2,d3,d4,d5,d6,d7]) rfl (Rd.of ⟨rfl,aF⟩ HK.out)
 all_goals
  generalize dZ op (l.map ak)=r at*;generalize l.length=n at*;clear h1 h hs g;go_in;go_wp2_with fail;refine C.out.mono ?_;rintro e w1 ⟨op',d,a1,b,ag,label,ai,ok,rfl,hk,hl,E⟩;obtain⟨⟨d0,d1,d2,d3,d4,d5,d6,d7⟩,hf,hlt,B⟩:=dR E;have HK:=hid hk;clear hk E;go_wp2;exact bodyPost_ret (by simp[results,results102,go_sem,d0,d1,d2,d3,d4,d5,d6,d7]) rfl ⟨op',d,a1,b,ag,label,ai,ok,rfl,HK.out,hl,aF⟩
attribute [local go_sem high] qd gP
theorem ZT(c d:UInt8)(h:c≠d):((c.toNat:Int)==(d.toNat:Int))=false:=by
 simp only[beq_eq_false_iff_ne,ne_eq];intro e;exact h (aph.1 (by omega))
theorem XJ:UF aq 101:=fun c=>AU c _ (by decide)
theorem Hf(p:UInt8->Bool): ∀(l:Tx) (k:Nat),(∀(j:Nat) c,j<k->l[j]? =some c->p c=true)->(∀c,l[k]? =some c->p c=false)->k<=l.length->(l.takeWhile p).length=k
 |[],k,_,_,h=>by simp at h;subst h;rfl
 |b::l,0,_,h2,_=>by rw[aom,if_neg (by rw[h2 b rfl];simp)];rfl
 | b::l,k+1,h1,h2,h3=>by
   rw[aom,if_pos (h1 0 b (by omega) rfl),ans,Hf p l k (fun j c hj hc=>h1 (j+1) c (by omega) (by simpa using hc)) (fun c hc=>h2 c (by simpa using hc)) (by simpa using h3)]
theorem Bn(h:Below (w.alloc (.cells #[v0,v1,v2,v3,v4,v5,v6,v7] t)).heap.size (w.alloc (.cells #[v0,v1,v2,v3,v4,v5,v6,v7] t)) w'):
 (w'.cell? ⟨w.heap.size,0,none⟩=some v0/\w'.cell? ⟨w.heap.size,1,none⟩=some v1/\w'.cell? ⟨w.heap.size,2,none⟩=some v2/\w'.cell? ⟨w.heap.size,3,none⟩=some v3/\w'.cell? ⟨w.heap.size,4,none⟩=some v4/\w'.cell? ⟨w.heap.size,5,none⟩=some v5/\w'.cell? ⟨w.heap.size,6,none⟩=some v6/\w'.cell? ⟨w.heap.size,7,none⟩=some v7)/\
 (∀k,w'.frozen? ⟨w.heap.size,k,none⟩=false)/\w.heap.size<w'.heap.size/\Below w.heap.size w w':=by
 have hs:=h.size;simp at hs
 have hc: ∀k,w'.cell? ⟨w.heap.size,k,none⟩=(#[v0,v1,v2,v3,v4,v5,v6,v7]:Array Value)[k]? :=fun k=>by
  rw[h.cell (p:=⟨w.heap.size,k,none⟩) (by simp)];have hh:=heap_alloc_new w (.cells #[v0,v1,v2,v3,v4,v5,v6,v7] t);simp only[anq,hh];simp
 refine⟨⟨hc 0,hc 1,hc 2,hc 3,hc 4,hc 5,hc 6,hc 7⟩,fun k=>?_,by omega,(al w _).trans (h.mono (al w _).size)⟩;rw[h.frozen (p:=⟨w.heap.size,k,none⟩) (by simp)];have hh:=heap_alloc_new w (.cells #[v0,v1,v2,v3,v4,v5,v6,v7] t);simp only[World.frozen?,hh];simp
def LZ(r:Option ay):ay:=match r with
 |some i=>i
 |none=>wv
def J4(r:Option ay):Int:=match r with
 |some _=>0
 |none=>91
def bI(r:Option ay)(w:World)(e:Ending)(w':World):Prop:=e= .returned (.tuple #[vI (LZ r),.int .i64 (J4 r)])/\Below w.heap.size w w'
theorem bI.no(hr:r=none)(h:e= .returned (.tuple #[.agg #[.int .i64 0,.int .i64 0,.int .i64 0,.int .i64 0,.int .i64 0,.string ⟨#[]⟩,.string ⟨#[]⟩,.int .i64 0],.int .i64 91]))(hb:Below w.heap.size w w'):bI r w e w':=by
 subst hr h;exact⟨rfl,hb⟩
theorem bI.yes{a b:Int}{label:Tx}(hr:r=some ⟨op,d,a,b,ag,[],label,ai⟩)(h:e= .returned (.tuple #[.agg #[.int .i64 op,.int .i64 d,.int .i64 a,.int .i64 b,.int .i64 ag,.string ⟨#[]⟩,.string (tx label),.int .i64 ai],.int .i64 0]))(hb:Below w.heap.size w w'):bI r w e w':=by
 subst hr h;exact⟨rfl,hb⟩
theorem bI.aae{a b:Int}(hr:r=some ⟨op,d,a,b,ag,[],[],ai⟩)(h:e= .returned (.tuple #[.agg #[.int .i64 op,.int .i64 d,.int .i64 a,.int .i64 b,.int .i64 ag,.string ⟨#[]⟩,.string ⟨#[]⟩,.int .i64 ai],.int .i64 0]))(hb:Below w.heap.size w w'):bI r w e w':=by
 subst hr h;exact⟨rfl,hb⟩
theorem ahu(s:Tx)(hl:262144<s.length)(w:World):Calls prog 44 #[.string (tx s)] w (bI (fT s) w):=by
 obtain⟨r,hr⟩:=aj (fT s);rw[hr];have HK:=hid (show r=none by rw[<-hr];unfold fT;rw[if_pos hl]);obtain⟨n,hn⟩:=aj ((tx s).size);have hz:decide (262144<(n:Int))=true:=by rw[<-hn,aM];simp;omega
 clear hr hl;go_in;go_wp2;exact bodyPost_ret (by simp[results,results44,go_sem]) rfl (bI.no HK.out rfl aF)
theorem ahw(s:Tx)(hl:s.length<=262144)(ht:ak s=[102,101,110,99,101,46,116,115,111])(w:World):Calls prog 44 #[.string (tx s)] w (bI (fT s) w):=by
 obtain⟨r,hr⟩:=aj (fT s);rw[hr];have HK:=hid (show r=some ⟨13,0,0,0,0,[],[],2⟩ by rw[<-hr];unfold fT;rw[if_neg (by omega)];simp only[ht];rw[if_pos trivial]);obtain⟨n,hn⟩:=aj ((tx s).size);have fk:n=s.length:=by rw[<-hn,aM]
 have hz:decide (262144<(n:Int))=false:=ah;have TR:=hid (fun(w:World)=>rT s (by omega) w);rw[ht]at TR;have z:((tx [102,101,110,99,101,46,116,115,111]).toList==[102,101,110,99,101,46,116,115,111])=true:=by rw[bh];rfl
 clear hr hl fk ht;go_in;go_wp2_with fail;refine(TR.out _).mono ?_;rintro e w1 ⟨rfl,E⟩;obtain⟨⟨d0,d1,d2,d3,d4,d5,d6,d7⟩,hf,hlt,B⟩:=dR E;clear E;go_wp2;exact bodyPost_ret (by simp[results,results44,go_sem,d0,d1,d2,d3,d4,d5,d6,d7]) rfl (bI.aae HK.out rfl aF)
theorem aht(s t:Tx)(hl:s.length<=262144)(ht:ak s=t)(h1:t≠[102,101,110,99,101,46,116,115,111])(h2:t.getLast?=some 58)(w:World):Calls prog 44 #[.string (tx s)] w (bI (fT s) w):=by
 obtain⟨r,hr⟩:=aj (fT s);rw[hr];have HK:=hid (show r=if aC (ak t.dropLast)then some ⟨12,0,0,0,0,[],ak t.dropLast,0⟩else none by rw[<-hr];unfold fT;rw[if_neg (by omega)];simp only[ht];rw[if_neg h1,if_pos h2]);obtain⟨n,hn⟩:=aj ((tx s).size);have fk:n=s.length:=by rw[<-hn,aM]
 have hz:decide (262144<(n:Int))=false:=ah;have TR:=hid (fun(w:World)=>rT s (by omega) w);rw[ht]at TR;have htl:=jS s;rw[ht]at htl;have z:((tx t).toList==[102,101,110,99,101,46,116,115,111])=false:=cY _ _ h1;have hs2:=Dp t 58 (by omega);rw[show(t.getLast?==some 58)=true by rw[h2];rfl]at hs2;have SF:=hid hs2;obtain⟨m,hm⟩:=aj t.length
 have tg:1<=m:=by
  rcases Nat.eq_zero_or_pos m with h0|h0
  ·rw[h0]at hm;have:=ane hm;rw[this]at h2;cases h2
  exact h0
 have LF:(tx t).size=m:=by rw[aM,hm]
 have sl: ∀w,(Instr.sliceAt 9 (.string (tx t)) none (some (.int .i64 ((m:Int)-1))) none).run prog w= .ok (.string (tx t.dropLast)) w:=by
  have:=qE t (m-1) (by omega)
  rwa[show((m-1:Nat):Int)=(m:Int)-1 by omega,show t.take (m-1)=t.dropLast by rw[List.dropLast_eq_take,hm]]at this
 have T2:=hid (fun(w:World)=>rT t.dropLast ah w);have dK:=jS t.dropLast;have hmb:m<=262144:=by omega
 rw[List.length_dropLast,hm]at dK;generalize t.dropLast=u at*;generalize ak u=lb at*;have CK:=hid (fun(w:World)=>CQ ⟨12,0,0,0,0,[],lb,0⟩ ah w);clear hr hl fk ht hs2 h2 h1 hm htl
 by_cases hnm:aC lb=true
 ·have hE:=qf (i:=⟨12,0,0,0,0,[],lb,0⟩) (by rw[A7];exact hnm)
  rw[if_pos hnm]at HK;rw[hE]at CK;clear hE hnm;go_in;go_wp2_with fail;refine(TR.out _).mono ?_;rintro e w1 ⟨rfl,E⟩;go_wp2_with fail;refine(SF.out _).mono ?_;rintro e w2 ⟨rfl,rfl⟩;go_wp2_with fail;refine(T2.out _).mono ?_;rintro e w3 ⟨rfl,E3⟩;have E:=aB E E3;go_wp2_with fail;refine(CK.out _).mono ?_;rintro e w4 ⟨rfl,E4⟩;obtain⟨⟨f0,f1,f2,f3,f4,f5,f6,f7⟩,mH,bU,B2⟩:=Bn E4;have E:=aB E B2;obtain⟨⟨d0,d1,d2,d3,d4,d5,d6,d7⟩,hf,hlt,B⟩:=dR E;clear E E3 E4 B2;go_wp2;exact bodyPost_ret (by simp[results,results44,go_sem,d0,d1,d2,d3,d4,d5,d6,d7]) rfl (bI.yes HK.out rfl aF)
 have hE:=iX (i:=⟨12,0,0,0,0,[],lb,0⟩) (by rw[A7];simpa using hnm)
 rw[if_neg hnm]at HK;rw[hE]at CK;clear hE hnm;go_in;go_wp2_with fail;refine(TR.out _).mono ?_;rintro e w1 ⟨rfl,E⟩;go_wp2_with fail;refine(SF.out _).mono ?_;rintro e w2 ⟨rfl,rfl⟩;go_wp2_with fail;refine(T2.out _).mono ?_;rintro e w3 ⟨rfl,E3⟩;have E:=aB E E3;go_wp2_with fail;refine(CK.out _).mono ?_;rintro e w4 ⟨rfl,E4⟩;obtain⟨⟨f0,f1,f2,f3,f4,f5,f6,f7⟩,mH,bU,B2⟩:=Bn E4;have E:=aB E B2;obtain⟨⟨d0,d1,d2,d3,d4,d5,d6,d7⟩,hf,hlt,B⟩:=dR E;clear E E3 E4 B2;go_wp2;exact bodyPost_ret (by simp[results,results44,go_sem,d0,d1,d2,d3,d4,d5,d6,d7]) rfl (bI.no HK.out rfl aF)
attribute [local go_sem high] qd gP
theorem xV{P:Prop}
 (k:Below (w.alloc (.cells #[v0,v1,v2,v3,v4,v5,v6,v7] t)).heap.size (w.alloc (.cells #[v0,v1,v2,v3,v4,v5,v6,v7] t)) w'->
  w'.cell? ⟨w.heap.size,0,none⟩=some v0->w'.cell? ⟨w.heap.size,1,none⟩=some v1->w'.cell? ⟨w.heap.size,2,none⟩=some v2->w'.cell? ⟨w.heap.size,3,none⟩=some v3->w'.cell? ⟨w.heap.size,4,none⟩=some v4->w'.cell? ⟨w.heap.size,5,none⟩=some v5->w'.cell? ⟨w.heap.size,6,none⟩=some v6->w'.cell? ⟨w.heap.size,7,none⟩=some v7->
  (∀k,w'.frozen? ⟨w.heap.size,k,none⟩=false)->w.heap.size<w'.heap.size->P):
 Below (w.alloc (.cells #[v0,v1,v2,v3,v4,v5,v6,v7] t)).heap.size (w.alloc (.cells #[v0,v1,v2,v3,v4,v5,v6,v7] t)) w'->P:=fun h=>by
 obtain⟨⟨c0,c1,c2,c3,c4,c5,c6,c7⟩,hf,hlt, -⟩:=Bn h;exact k h c0 c1 c2 c3 c4 c5 c6 c7 hf hlt
theorem Bo{P:Prop}
 (k:Below (w.alloc (.cells #[v0,v1,v2,v3,v4,v5,v6,v7] t)).heap.size (w.alloc (.cells #[v0,v1,v2,v3,v4,v5,v6,v7] t)) w'->
  w'.cell? ⟨w.heap.size,0,none⟩=some v0->w'.cell? ⟨w.heap.size,1,none⟩=some v1->w'.cell? ⟨w.heap.size,2,none⟩=some v2->w'.cell? ⟨w.heap.size,3,none⟩=some v3->w'.cell? ⟨w.heap.size,4,none⟩=some v4->w'.cell? ⟨w.heap.size,5,none⟩=some v5->w'.cell? ⟨w.heap.size,6,none⟩=some v6->w'.cell? ⟨w.heap.size,7,none⟩=some v7->
  (∀k,w'.frozen? ⟨w.heap.size,k,none⟩=false)->w.heap.size<w'.heap.size->P):
 Below (w.alloc (.cells #[v0,v1,v2,v3,v4,v5,v6,v7] t)).drew.heap.size (w.alloc (.cells #[v0,v1,v2,v3,v4,v5,v6,v7] t)).drew w'->P:=fun h=>
 xV k (aB (below_drewN _ 1) h)
theorem gH.Cu(hi:i.loc=[])(hlt:b<w.heap.size)(h0:w.cell? ⟨b,0,none⟩=some (.int .i64 i.op))(h1:w.cell? ⟨b,1,none⟩=some (.int .i64 i.d))(h2:w.cell? ⟨b,2,none⟩=some (.int .i64 i.a))(h3:w.cell? ⟨b,3,none⟩=some (.int .i64 i.b))(h4:w.cell? ⟨b,4,none⟩=some (.int .i64 i.ag))(h5:w.cell? ⟨b,5,none⟩=some (.string ⟨#[]⟩))(h6:w.cell? ⟨b,6,none⟩=some (.string (tx i.label)))(h7:w.cell? ⟨b,7,none⟩=some (.int .i64 i.ai)):gH w b i:=by
 refine⟨hlt,fun k hk=>?_⟩
 match k,hk with
 |0,_=>exact h0
 |1,_=>exact h1
 |2,_=>exact h2
 |3,_=>exact h3
 |4,_=>exact h4
 |5,_=>rw[h5];show _=some (Value.string (tx i.loc));rw[hi];rfl
 |6,_=>exact h6
 |7,_=>exact h7
theorem ahv(s t:Tx)(hl:s.length<=262144)(ht:ak s=t)(h1:t≠[102,101,110,99,101,46,116,115,111])(h2: ¬t.getLast?=some 58)(w:World)(g:Gl w):Calls prog 44 #[.string (tx s)] w (bI (fT s) w):=by
 obtain⟨r,hr⟩:=aj (fT s);rw[hr];have HK:=hid (show dZ (t.takeWhile fun c=> !aq c) ((aH 44 (t.dropWhile fun c=> !aq c)).map ak)=r by rw[<-hr];unfold fT;rw[if_neg (by omega)];simp only[ht];rw[if_neg h1,if_neg h2]);obtain⟨n,hn⟩:=aj ((tx s).size);have fk:n=s.length:=by rw[<-hn,aM]
 have hz:decide (262144<(n:Int))=false:=ah;have TR:=hid (fun(w:World)=>rT s (by omega) w);rw[ht]at TR;have htl:=jS s;rw[ht]at htl;have z:((tx t).toList==[102,101,110,99,101,46,116,115,111])=false:=cY _ _ h1;have hs2:=Dp t 58 (by omega);rw[show(t.getLast?==some 58)=false by simpa using h2]at hs2;have SF:=hid hs2;obtain⟨m,hm⟩:=aj t.length;have LF:(tx t).size=m:=by rw[aM,hm]
 have hmb:m<=262144:=by omega
 have HM:=hid hm;have g0:=g.below (al w bR);clear hr hl fk ht hs2 h2 h1 hm htl;go_in;go_wp2_with fail;refine(TR.out _).mono ?_;rintro e w1 ⟨rfl,E⟩;have g1:=g0.below E;clear g0;go_wp2_with fail;refine(SF.out _).mono ?_;rintro e w2 ⟨rfl,rfl⟩;go_wp2_with fail
 go_loop [5] (fun i=> ∃k:Nat,k<=m/\i= .int .i64 k/\Hid (∀(j:Nat) (c:UInt8),j<k->t[j]? =some c->aq c=false)) (fun i=>m-(intOf i).toNat)
 ·exact⟨0,by omega,rfl,fun j c hj=>absurd hj (Nat.not_lt_zero j)⟩
 obtain⟨k,hk,rfl,HB⟩:=hrel
 by_cases hend:k<m/\ ∃c,t[k]? =some c/\aq c=false
 ·obtain⟨hlt,c,hc,hbc⟩:=hend
  have ix:=bB t k c hc
  have xj:=hid (show ∀(j:Nat) (c:UInt8),j<k+1->t[j]? =some c->aq c=false from fun j c' hj hc'=>by
   rcases Nat.lt_succ_iff_lt_or_eq.1 hj with h|h
   ·exact HB.out j c' h hc'
   subst h;rw[hc]at hc';cases hc';exact hbc)
  have HC:=hid hbc;clear hc hbc
  go_wp2_with (go_at_call 101;refine av (XJ c _) ?_;rw[HC.out])
  go_round
  case rel=>exact⟨k+1,by omega,by go_num,xj⟩
  case measure=>simp[intOf];omega
 have hlen:=Hf (fun c=> !aq c) t k (fun j c hj hc=>by rw[HB.out j c hj hc];rfl) (fun c hc=>by
  have hlt:=(anx.1 hc).1;cases hb:aq c with
  |true=>rfl
  |false=>exact absurd ⟨by have:=HM.out;omega,c,hc,hb⟩ hend) (aI HM.out)
 have cE:=HK.out;rw[Dq,Fk,hlen]at cE;have y7:=qE t k (aI HM.out);have nR:=qD t k (aI HM.out)
 have hsm:Sm (aH 44 (t.drop k)):=fun x hx=>by
  have:=wQ 44 _ x hx;have:=HM.out;simp at *; omega
 have SP:=hid (fun(w:World) (g:Gl w)=>akI (t.drop k) (by have:=HM.out;simp;omega) w g);have RD:=hid (fun(a:Option Addr) (c:Nat) (w:World) (h:bS w a (aH 44 (t.drop k))) (g:Gl w)=>ahy (t.take k) (aH 44 (t.drop k)) a c w h hsm g);rw[cE]at RD;clear hsm cE HK hlen;generalize aH 44 (t.drop k)=ps at*;generalize t.drop k=t2 at*;generalize t.take k=t1 at*
 have hex:(k<m/\ ∃c,t[k]? =some c/\aq c=true)\/k=m:=by
  by_cases hkm:k<m
  ·left
   obtain⟨c,hc⟩: ∃c,t[k]? =some c:=⟨_,am9 (aI HM.out)⟩;refine⟨hkm,c,hc,?_⟩;cases hb:aq c with
   |true=>rfl
   |false=>exact absurd ⟨hkm,c,hc,hb⟩ hend
  right;omega
 clear hend;rcases hex with⟨hlt,c,hc,hbc⟩|rfl
 ·have ix:=bB t k c hc
  have HC:=hid hbc;clear hc hbc
  go_wp2_with (go_at_call 101;refine av (XJ c _) ?_;rw[HC.out])
  go_cut [6,7] (fun x y wx=> ∃(bb:Nat) (op d a1 b1 ag:Int) (label:Tx) (ai:Int) (ok:Bool),x= .pointer (some ⟨bb,0,none⟩)/\y= .bool ok/\Hid (dX ⟨op,d,a1,b1,ag,[],label,ai⟩ ok=r)/\label.length<=1000000/\gH wx bb ⟨op,d,a1,b1,ag,[],label,ai⟩/\Below (w.alloc bR).heap.size (w.alloc bR) wx)
  case first=>
   go_region_with (first|(go_at_call 79;refine(SP.out _ (g1.below aF)).mono ?_;rintro e' w' ⟨a2,rfl,nT,E2⟩;have g2:=Gl.below (Gl.below g1 aF) E2;have E5:=aB (a:=w1) aF E2;have s5:=E5.size)|(go_at_call 102;refine(RD.out _ _ _ (by first|exact nT|exact nT.below (al _ _)) (by first|exact g2|exact g2.below (al _ _))).mono ?_;rintro e' w' ⟨op,d,a1,b,ag,label,ai,ok,rfl,hk,hl,E3⟩;have E6:=aB (a:=w1) (by first|exact E5|exact eZ E5 _) E3;have s6:=E6.size;first|(revert E3;with_reducible refine xV ?_;intro E3 f0 f1 f2 f3 f4 f5 f6 f7 mH bU)|(have jn:=aB E2 E3;revert jn;with_reducible refine Bo ?_;intro jn f0 f1 f2 f3 f4 f5 f6 f7 mH bU)|skip))
   all_goals
    go_wp2_with fail
    go_meet
    refine⟨_,op,d,a1,b,ag,label,ai,ok,rfl,rfl,hk,hl,gH.Cu rfl ?_ ?_ ?_ ?_ ?_ ?_ ?_ ?_ ?_,aB E aF⟩
    all_goals go_simp
  case rest=>
   clear E;obtain⟨bb,op,d,a1,b1,ag,label,ai,ok,rfl,rfl,hkk,hl,bx,E⟩:=hcut;have CK:=hid (fun(w:World)=>CQ ⟨op,d,a1,b1,ag,[],label,ai⟩ ah w);obtain⟨q0,q1,q2,q3,q4,q5,q6,q7⟩:=bx.cells;cases ok
   ·obtain⟨⟨d0,d1,d2,d3,d4,d5,d6,d7⟩,hf,hlt,B⟩:=dR E
    have HN:=hid (show r=none from hkk.out.symm);clear E q0 q1 q2 q3 q4 q5 q6 q7 bx;go_wp2_with fail;exact bodyPost_ret (by simp[results,results44,go_sem,d0,d1,d2,d3,d4,d5,d6,d7]) rfl (bI.no HN.out rfl aF)
   cases bY:bX ⟨op,d,a1,b1,ag,[],label,ai⟩
   ·have hE:=iX bY
    have HN:=hid (show r=none by rw[<-hkk.out];unfold dX;rw[bY];rfl);rw[hE]at CK;clear hE bY;go_wp2_with fail;refine(CK.out _).mono ?_;rintro e w9 ⟨rfl,E4⟩;have E:=E.trans (E4.mono E.size);obtain⟨⟨d0,d1,d2,d3,d4,d5,d6,d7⟩,hf,hlt,B⟩:=dR E;clear E E4 q0 q1 q2 q3 q4 q5 q6 q7 bx;go_wp2_with fail;exact bodyPost_ret (by simp[results,results44,go_sem,d0,d1,d2,d3,d4,d5,d6,d7]) rfl (bI.no HN.out rfl aF)
   have hE:=qf bY
   have HN:=hid (show r=some ⟨op,d,a1,b1,ag,[],label,ai⟩ by rw[<-hkk.out];unfold dX;rw[bY];rfl);rw[hE]at CK;clear hE bY;go_wp2_with fail;refine(CK.out _).mono ?_;rintro e w9 ⟨rfl,E4⟩;have E:=E.trans (E4.mono E.size);have bx:=bx.below E4;clear q0 q1 q2 q3 q4 q5 q6 q7;obtain⟨q0,q1,q2,q3,q4,nN,q6,q7⟩:=bx.cells;have q5:w9.cell? ⟨bb,5,none⟩=some (.string ⟨#[]⟩):=nN;clear nN;obtain⟨⟨d0,d1,d2,d3,d4,d5,d6,d7⟩,hf,hlt,B⟩:=dR E;clear E E4 bx;go_wp2_with fail;exact bodyPost_ret (by simp[results,results44,go_sem,d0,d1,d2,d3,d4,d5,d6,d7]) rfl (bI.yes HN.out rfl aF)
 go_wp2_with fail
 go_cut [6,7] (fun x y wx=> ∃(bb:Nat) (op d a1 b1 ag:Int) (label:Tx) (ai:Int) (ok:Bool),x= .pointer (some ⟨bb,0,none⟩)/\y= .bool ok/\Hid (dX ⟨op,d,a1,b1,ag,[],label,ai⟩ ok=r)/\label.length<=1000000/\gH wx bb ⟨op,d,a1,b1,ag,[],label,ai⟩/\Below (w.alloc bR).heap.size (w.alloc bR) wx)
 case first=>
  go_region_with (first|(go_at_call 79;refine(SP.out _ (g1.below aF)).mono ?_;rintro e' w' ⟨a2,rfl,nT,E2⟩;have g2:=Gl.below (Gl.below g1 aF) E2;have E5:=aB (a:=w1) aF E2;have s5:=E5.size)|(go_at_call 102;refine(RD.out _ _ _ (by first|exact nT|exact nT.below (al _ _)) (by first|exact g2|exact g2.below (al _ _))).mono ?_;rintro e' w' ⟨op,d,a1,b,ag,label,ai,ok,rfl,hk,hl,E3⟩;have E6:=aB (a:=w1) (by first|exact E5|exact eZ E5 _) E3;have s6:=E6.size;first|(revert E3;with_reducible refine xV ?_;intro E3 f0 f1 f2 f3 f4 f5 f6 f7 mH bU)|(have jn:=aB E2 E3;revert jn;with_reducible refine Bo ?_;intro jn f0 f1 f2 f3 f4 f5 f6 f7 mH bU)|skip))
  all_goals
   go_wp2_with fail
   go_meet
   refine⟨_,op,d,a1,b,ag,label,ai,ok,rfl,rfl,hk,hl,gH.Cu rfl ?_ ?_ ?_ ?_ ?_ ?_ ?_ ?_ ?_,aB E aF⟩
   all_goals go_simp
 case rest=>
  clear E;obtain⟨bb,op,d,a1,b1,ag,label,ai,ok,rfl,rfl,hkk,hl,bx,E⟩:=hcut;have CK:=hid (fun(w:World)=>CQ ⟨op,d,a1,b1,ag,[],label,ai⟩ ah w);obtain⟨q0,q1,q2,q3,q4,q5,q6,q7⟩:=bx.cells;cases ok
  ·obtain⟨⟨d0,d1,d2,d3,d4,d5,d6,d7⟩,hf,hlt,B⟩:=dR E
   have HN:=hid (show r=none from hkk.out.symm);clear E q0 q1 q2 q3 q4 q5 q6 q7 bx;go_wp2_with fail;exact bodyPost_ret (by simp[results,results44,go_sem,d0,d1,d2,d3,d4,d5,d6,d7]) rfl (bI.no HN.out rfl aF)
  cases bY:bX ⟨op,d,a1,b1,ag,[],label,ai⟩
  ·have hE:=iX bY
   have HN:=hid (show r=none by rw[<-hkk.out];unfold dX;rw[bY];rfl);rw[hE]at CK;clear hE bY;go_wp2_with fail;refine(CK.out _).mono ?_;rintro e w9 ⟨rfl,E4⟩;have E:=E.trans (E4.mono E.size);obtain⟨⟨d0,d1,d2,d3,d4,d5,d6,d7⟩,hf,hlt,B⟩:=dR E;clear E E4 q0 q1 q2 q3 q4 q5 q6 q7 bx;go_wp2_with fail;exact bodyPost_ret (by simp[results,results44,go_sem,d0,d1,d2,d3,d4,d5,d6,d7]) rfl (bI.no HN.out rfl aF)
  have hE:=qf bY
  have HN:=hid (show r=some ⟨op,d,a1,b1,ag,[],label,ai⟩ by rw[<-hkk.out];unfold dX;rw[bY];rfl);rw[hE]at CK;clear hE bY;go_wp2_with fail;refine(CK.out _).mono ?_;rintro e w9 ⟨rfl,E4⟩;have E:=E.trans (E4.mono E.size);have bx:=bx.below E4;clear q0 q1 q2 q3 q4 q5 q6 q7;obtain⟨q0,q1,q2,q3,q4,nN,q6,q7⟩:=bx.cells;have q5:w9.cell? ⟨bb,5,none⟩=some (.string ⟨#[]⟩):=nN;clear nN;obtain⟨⟨d0,d1,d2,d3,d4,d5,d6,d7⟩,hf,hlt,B⟩:=dR E;clear E E4 bx;go_wp2_with fail;exact bodyPost_ret (by simp[results,results44,go_sem,d0,d1,d2,d3,d4,d5,d6,d7]) rfl (bI.yes HN.out rfl aF)
theorem ahs(s:Tx)(w:World)(g:Gl w):Calls prog 44 #[.string (tx s)] w (bI (fT s) w):=by
 by_cases hl:s.length<=262144
 ·by_cases h1:ak s=[102,101,110,99,101,46,116,115,111]
  ·exact ahw s hl h1 w
  by_cases h2:(ak s).getLast?=some 58
  ·exact aht s _ hl rfl h1 h2 w
  exact ahv s _ hl rfl h1 h2 w g
 exact ahu s (by omega) w
def fD(l:List ay):List Value:=l.flatMap iC
theorem wz(l:List ay):(fD l).length=l.length*8:=by
 induction l with
 |nil=>rfl
 |cons x r ih=>unfold fD at *; simp[aqE,ih,iC];omega
theorem Gf(l r:List ay):fD (l++r)=fD l++fD r:=by unfold fD;rw[aqt]
theorem Va(x:ay)(r:List ay):fD (x::r)=iC x++fD r:=by unfold fD;rw[aqE]
theorem Vb: ∀(l:List ay) (k i:Nat) (x:ay),l[k]? =some x->i<8->(fD l)[k*8+i]? =(iC x)[i]?
 |[],k,i,x,h,_=>by simp at h
 | y::r,0,i,x,h,hi=>by
   simp at h;subst h;rw[Va,ap7,Nat.zero_add,aqF (by simpa[iC]using hi)]
 | y::r,k+1,i,x,h,hi=>by
   rw[Va,aqD (by simp[iC];omega)];have:(k+1)*8+i-(iC y).length=k*8+i:=by simp[iC];omega
   rw[this,Vb r k i x (by simpa using h) hi]
theorem aek(l:List ay)(k:Nat):(fD l).take (k*8)=fD (l.take k):=by
 by_cases hk:k<=l.length
 ·have h1:fD l=fD (l.take k)++fD (l.drop k):=by rw[<-Gf,aoT]
  rw[h1,aqK (by rw[wz,ao2,aqC hk])]
 rw[ap8 (by rw[wz];omega),ap8 (by omega)]
theorem aej(l:List ay)(k:Nat):(fD l).drop (k*8)=fD (l.drop k):=by
 by_cases hk:k<=l.length
 ·have h1:fD l=fD (l.take k)++fD (l.drop k):=by rw[<-Gf,aoT]
  rw[h1,aqL (by rw[wz,ao2,aqC hk])]
 rw[aqz (by rw[wz];omega),aqz (by omega)];rfl
structure Is(w:World)(a:Option Addr)(l:List ay):Prop where
 row:Row w a (fD l)
 len:l.length<=1000000000000000000
theorem Is.nil(w:World)(a:Option Addr):Is w a []:=⟨Row.nil _ _,by simp⟩
theorem Is.below{a:Option Addr}{l:List ay}(h:Is w a l)(hb:Below w.heap.size w w'):Is w' a l:=⟨h.row.below hb,h.len⟩
theorem Is.cells{a:Option Addr}{l:List ay}(h:Is w a l)(hk:l[k]? =some i):
 w.cell? ⟨bk a,fo a+k*8,none⟩=some (.int .i64 i.op)/\w.cell? ⟨bk a,fo a+k*8+1,none⟩=some (.int .i64 i.d)/\w.cell? ⟨bk a,fo a+k*8+2,none⟩=some (.int .i64 i.a)/\w.cell? ⟨bk a,fo a+k*8+3,none⟩=some (.int .i64 i.b)/\w.cell? ⟨bk a,fo a+k*8+4,none⟩=some (.int .i64 i.ag)/\w.cell? ⟨bk a,fo a+k*8+5,none⟩=some (.string (tx i.loc))/\w.cell? ⟨bk a,fo a+k*8+6,none⟩=some (.string (tx i.label))/\w.cell? ⟨bk a,fo a+k*8+7,none⟩=some (.int .i64 i.ai):=by
 have hlt:=(anx.1 hk).1
 have g: ∀j,j<8->w.cell? ⟨bk a,fo a+k*8+j,none⟩=(iC i)[j]? :=fun j hj=>by
  have h1:=h.row.cell (k*8+j) (by rw[wz];omega);rw[Vb l k j i hk hj]at h1;rw[Nat.add_assoc];exact h1
 exact⟨g 0 (by omega),g 1 (by omega),g 2 (by omega),g 3 (by omega),g 4 (by omega),g 5 (by omega),g 6 (by omega),g 7 (by omega)⟩
theorem Is.lt{a:Option Addr}{l:List ay}(h:Is w a l)(hk:k<l.length):bk a<w.heap.size:=
 sP (p:=⟨bk a,fo a+k*8,none⟩) (h.cells (am9 hk)).1
theorem inl:gQ prog 75 50 (.agg #[.int .i64 0,.int .i64 0,.int .i64 0,.int .i64 0,.int .i64 0,.string an3,.string an3,.int .i64 0]) 8 80:=⟨underlying75,by kernel_rfl,rfl,by decide⟩
theorem Is.idx{a:Option Addr}{l:List ay}(h:Is w a l)(k:Nat)(hk:k<l.length):
 ∀c w',(anm 75 (.slice a l.length c) (.int .i64 k)).run prog w'= .ok (.pointer (some ⟨bk a,fo a+k*8,none⟩)) w':=by
 intro c;exact yZ (c:=c) (n:=l.length) (m:=8) h.row inl.nc inl.cells inl.isSome (wz l) (by omega) k hk .i64
theorem Is.take{a:Option Addr}{l:List ay}(h:Is w a l)(k:Nat):Is w a (l.take k):=by
 refine⟨?_,by have:=h.len;simp;omega⟩;have:=h.row.take (k*8)
 rwa[aek]at this
theorem Is.drop{a:Option Addr}{l:List ay}(h:Is w a l)(k:Nat)(stay:Prop)[Decidable stay](hs:stay->l.length<=k\/k=0):Is w (j8 a stay (k*8)) (l.drop k):=by
 refine⟨?_,by have:=h.len;simp;omega⟩;have:=h.row.drop (k*8) stay (fun h'=>by have:=hs h';rw[wz];omega)
 rwa[aej]at this
theorem wB:gQ prog 41 3 (.int .i64 0) 1 8:=⟨underlying41,by kernel_rfl,rfl,by decide⟩
set_option linter.unusedSectionVars false
def flat{α:Type}(enc:α->List Value)(l:List α):List Value:=l.flatMap enc
section
variable {α:Type} {enc:α->List Value} {m:Nat} (hm: ∀x,(enc x).length=m)
theorem Fu:flat enc []=[]:=rfl
theorem xU(x:α)(r:List α):flat enc (x::r)=enc x++flat enc r:=by unfold flat;rw[aqE]
theorem j9(l r:List α):flat enc (l++r)=flat enc l++flat enc r:=by unfold flat;rw[aqt]
theorem lG(x:α):flat enc [x]=enc x:=by rw[xU,Fu,aoQ]
include hm
theorem iY(l:List α):(flat enc l).length=l.length*m:=by
 induction l with
 |nil=>simp[flat]
 |cons x r ih=>rw[xU,aoW,hm,ih,ans,aqI,Nat.add_comm]
theorem Ft: ∀(l:List α) (k i:Nat) (x:α),l[k]? =some x->i<m->(flat enc l)[k*m+i]? =(enc x)[i]?
 |[],k,i,x,h,_=>by simp at h
 | y::r,0,i,x,h,hi=>by
   simp at h;subst h;rw[xU,ap7,Nat.zero_add,aqF (by rw[hm];exact hi)]
 | y::r,k+1,i,x,h,hi=>by
   have e:(k+1)*m+i=m+(k*m+i):=by rw[aqI];omega
   rw[xU,aqD (by rw[hm,e];omega),hm,e,Nat.add_sub_cancel_left,Ft r k i x (by simpa using h) hi]
theorem Ka(l:List α)(k:Nat):(flat enc l).take (k*m)=flat enc (l.take k):=by
 by_cases hk:k<=l.length
 ·have h1:flat enc l=flat enc (l.take k)++flat enc (l.drop k):=by rw[<-j9,aoT]
  rw[h1,aqK (by rw[iY hm,ao2,aqC hk])]
 have h2:l.length*m<=k*m:=aqB _ (by omega)
 rw[ap8 (by rw[iY hm];exact h2),ap8 (by omega)]
theorem SZ(l:List α)(k:Nat):(flat enc l).drop (k*m)=flat enc (l.drop k):=by
 by_cases hk:k<=l.length
 ·have h1:flat enc l=flat enc (l.take k)++flat enc (l.drop k):=by rw[<-j9,aoT]
  rw[h1,aqL (by rw[iY hm,ao2,aqC hk])]
 have h2:l.length*m<=k*m:=aqB _ (by omega)
 rw[aqz (by rw[iY hm];exact h2),aqz (by omega)];rfl
end
theorem ac3{α:Type}{enc:α->List Value}(h: ∀x,∀u∈enc x,u.oneCell'=true)(l:List α): ∀u∈flat enc l,u.oneCell'=true:=by
 intro u hu;unfold flat at hu;obtain⟨x,-, hx⟩:=List.mem_flatMap.1 hu;exact h x u hx
structure bK{α:Type}(enc:α->List Value)(w:World)(a:Option Addr)(l:List α):Prop where
 row:Row w a (flat enc l)
 len:l.length<=1000000000000000000
section
variable {α:Type} {enc:α->List Value} {m:Nat} {w w':World} {a:Option Addr} {l:List α}
theorem bK.nil(w:World)(a:Option Addr):bK enc w a []:=⟨Row.nil _ _,by simp⟩
theorem bK.below(h:bK enc w a l)(hb:Below w.heap.size w w'):bK enc w' a l:=⟨h.row.below hb,h.len⟩
theorem bK.cell(h:bK enc w a l)(hm: ∀x,(enc x).length=m){k:Nat}{x:α}(hk:l[k]? =some x)(j:Nat)(hj:j<m):w.cell? ⟨bk a,fo a+k*m+j,none⟩=(enc x)[j]? :=by
 have hlt:=(anx.1 hk).1
 have hb:k*m+j<l.length*m:=by
  have:(k+1)*m<=l.length*m:=aqB _ hlt;rw[aqI]at this;omega
 have h1:=h.row.cell (k*m+j) (by rw[iY hm];exact hb);rw[Ft hm l k j x hk hj]at h1;rw[Nat.add_assoc];exact h1
theorem bK.cell0(h:bK enc w a l)(hm: ∀x,(enc x).length=m){k:Nat}{x:α}(hk:l[k]? =some x)(hj:0<m):w.cell? ⟨bk a,fo a+k*m,none⟩=(enc x)[0]? :=h.cell hm hk 0 hj
theorem bK.lt(h:bK enc w a l)(hm: ∀x,(enc x).length=m)(hpos:0<m)(hl:l≠[]):bk a<w.heap.size:=by
 refine h.row.lt fun e=>hl ?_
 have:(flat enc l).length=0:=by rw[e];rfl
 rw[iY hm]at this;rcases Nat.mul_eq_zero.1 this with h1|h1
 ·exact ane h1
 omega
theorem bK.idx{P:Program}{t e bytes:Nat}{z:Value}(h:bK enc w a l)(T:gQ P t e z m bytes)(hm: ∀x,(enc x).length=m)(k:Nat)(hk:k<l.length):
 ∀c w',(anm t (.slice a l.length c) (.int .i64 k)).run P w'= .ok (.pointer (some ⟨bk a,fo a+k*m,none⟩)) w':=by
 intro c;exact yZ (c:=c) (n:=l.length) (m:=m) h.row T.nc T.cells T.isSome (iY hm l) T.pos k hk .i64
theorem bK.take(h:bK enc w a l)(hm: ∀x,(enc x).length=m)(k:Nat):bK enc w a (l.take k):=by
 refine⟨?_,by have:=h.len;simp;omega⟩;have:=h.row.take (k*m)
 rwa[Ka hm]at this
theorem bK.drop(h:bK enc w a l)(hm: ∀x,(enc x).length=m)(hpos:0<m)(k:Nat)(stay:Prop)[Decidable stay](hs:stay->l.length<=k\/k=0):bK enc w (j8 a stay (k*m)) (l.drop k):=by
 refine⟨?_,by have:=h.len;simp;omega⟩
 have:=h.row.drop (k*m) stay (fun h'=>by
  rcases hs h' with h1|h1
  ·left;rw[iY hm];exact aqB _ h1
  right;rw[h1,ap7])
 rwa[SZ hm]at this
theorem Own.els{B E n c:Nat}(h:Own w B E m a n c (flat enc l))(hm: ∀x,(enc x).length=m)(hpos:0<m)(hl:l.length<=1000000000000000000):bK enc w a l/\n=l.length:=by
 refine⟨⟨h.row,hl⟩,?_⟩;have h1:=h.cap.2.2;rw[iY hm]at h1;exact Nat.eq_of_mul_eq_mul_right hpos h1.symm
end
def aA(w:World)(b:Nat)(l:List Value):Prop:=b<w.heap.size/\ ∀k,k<l.length->w.cell? ⟨b,k,none⟩=l[k]?
theorem aA.new(w:World)(us:Array Value)(T:TypeId):aA (w.alloc (.cells us T)) w.heap.size us.toList:=
 ⟨by simp,fun k hk=>by
  have hh:=heap_alloc_new w (.cells us T);simp only[anq,hh];simp⟩
theorem aA.below(h:aA w b l)(hb:Below w.heap.size w w'):aA w' b l:=
 ⟨anW h.1 hb.size,fun k hk=>by rw[hb.cell (p:=⟨b,k,none⟩) h.1];exact h.2 k hk⟩
theorem aA.get(h:aA w b l)(k:Nat)(v:Value)(hk:l[k]? =some v):w.cell? ⟨b,k,none⟩=some v:=by
 rw[h.2 k (anx.1 hk).1];exact hk
theorem aA.mB(h:aA w b (v0::v1::l)):w.cell? ⟨b,0,none⟩=some v0/\w.cell? ⟨b,1,none⟩=some v1:=⟨h.get 0 _ rfl,h.get 1 _ rfl⟩
theorem aA.oa(h:aA w b (v0::v1::v2::l)):w.cell? ⟨b,0,none⟩=some v0/\w.cell? ⟨b,1,none⟩=some v1/\w.cell? ⟨b,2,none⟩=some v2:=⟨h.get 0 _ rfl,h.get 1 _ rfl,h.get 2 _ rfl⟩
theorem aA.AV(h:aA w b (v0::v1::v2::v3::l)):w.cell? ⟨b,0,none⟩=some v0/\w.cell? ⟨b,1,none⟩=some v1/\w.cell? ⟨b,2,none⟩=some v2/\w.cell? ⟨b,3,none⟩=some v3:=⟨h.get 0 _ rfl,h.get 1 _ rfl,h.get 2 _ rfl,h.get 3 _ rfl⟩
theorem aA.fc(h:aA w b (v0::v1::v2::v3::v4::l)):w.cell? ⟨b,0,none⟩=some v0/\w.cell? ⟨b,1,none⟩=some v1/\w.cell? ⟨b,2,none⟩=some v2/\w.cell? ⟨b,3,none⟩=some v3/\w.cell? ⟨b,4,none⟩=some v4:=⟨h.get 0 _ rfl,h.get 1 _ rfl,h.get 2 _ rfl,h.get 3 _ rfl,h.get 4 _ rfl⟩
theorem aA.gw(h:aA w b (v0::v1::v2::v3::v4::v5::l)):w.cell? ⟨b,0,none⟩=some v0/\w.cell? ⟨b,1,none⟩=some v1/\w.cell? ⟨b,2,none⟩=some v2/\w.cell? ⟨b,3,none⟩=some v3/\w.cell? ⟨b,4,none⟩=some v4/\w.cell? ⟨b,5,none⟩=some v5:=⟨h.get 0 _ rfl,h.get 1 _ rfl,h.get 2 _ rfl,h.get 3 _ rfl,h.get 4 _ rfl,h.get 5 _ rfl⟩
theorem aA.lA(h:aA w b (v0::v1::v2::v3::v4::v5::v6::l)):w.cell? ⟨b,0,none⟩=some v0/\w.cell? ⟨b,1,none⟩=some v1/\w.cell? ⟨b,2,none⟩=some v2/\w.cell? ⟨b,3,none⟩=some v3/\w.cell? ⟨b,4,none⟩=some v4/\w.cell? ⟨b,5,none⟩=some v5/\w.cell? ⟨b,6,none⟩=some v6:=⟨h.get 0 _ rfl,h.get 1 _ rfl,h.get 2 _ rfl,h.get 3 _ rfl,h.get 4 _ rfl,h.get 5 _ rfl,h.get 6 _ rfl⟩
theorem aA.gJ(h:aA w b (v0::v1::v2::v3::v4::v5::v6::v7::l)):w.cell? ⟨b,0,none⟩=some v0/\w.cell? ⟨b,1,none⟩=some v1/\w.cell? ⟨b,2,none⟩=some v2/\w.cell? ⟨b,3,none⟩=some v3/\w.cell? ⟨b,4,none⟩=some v4/\w.cell? ⟨b,5,none⟩=some v5/\w.cell? ⟨b,6,none⟩=some v6/\w.cell? ⟨b,7,none⟩=some v7:=⟨h.get 0 _ rfl,h.get 1 _ rfl,h.get 2 _ rfl,h.get 3 _ rfl,h.get 4 _ rfl,h.get 5 _ rfl,h.get 6 _ rfl,h.get 7 _ rfl⟩
theorem aA.uj(h:aA w b (v0::v1::v2::v3::v4::v5::v6::v7::v8::v9::v10::v11::l)):w.cell? ⟨b,0,none⟩=some v0/\w.cell? ⟨b,1,none⟩=some v1/\w.cell? ⟨b,2,none⟩=some v2/\w.cell? ⟨b,3,none⟩=some v3/\w.cell? ⟨b,4,none⟩=some v4/\w.cell? ⟨b,5,none⟩=some v5/\w.cell? ⟨b,6,none⟩=some v6/\w.cell? ⟨b,7,none⟩=some v7/\w.cell? ⟨b,8,none⟩=some v8/\w.cell? ⟨b,9,none⟩=some v9/\w.cell? ⟨b,10,none⟩=some v10/\w.cell? ⟨b,11,none⟩=some v11:=⟨h.get 0 _ rfl,h.get 1 _ rfl,h.get 2 _ rfl,h.get 3 _ rfl,h.get 4 _ rfl,h.get 5 _ rfl,h.get 6 _ rfl,h.get 7 _ rfl,h.get 8 _ rfl,h.get 9 _ rfl,h.get 10 _ rfl,h.get 11 _ rfl⟩
theorem aA.aa4(h:aA w b (v0::v1::v2::v3::v4::v5::v6::v7::v8::v9::v10::v11::v12::v13::l)):w.cell? ⟨b,0,none⟩=some v0/\w.cell? ⟨b,1,none⟩=some v1/\w.cell? ⟨b,2,none⟩=some v2/\w.cell? ⟨b,3,none⟩=some v3/\w.cell? ⟨b,4,none⟩=some v4/\w.cell? ⟨b,5,none⟩=some v5/\w.cell? ⟨b,6,none⟩=some v6/\w.cell? ⟨b,7,none⟩=some v7/\w.cell? ⟨b,8,none⟩=some v8/\w.cell? ⟨b,9,none⟩=some v9/\w.cell? ⟨b,10,none⟩=some v10/\w.cell? ⟨b,11,none⟩=some v11/\w.cell? ⟨b,12,none⟩=some v12/\w.cell? ⟨b,13,none⟩=some v13:=⟨h.get 0 _ rfl,h.get 1 _ rfl,h.get 2 _ rfl,h.get 3 _ rfl,h.get 4 _ rfl,h.get 5 _ rfl,h.get 6 _ rfl,h.get 7 _ rfl,h.get 8 _ rfl,h.get 9 _ rfl,h.get 10 _ rfl,h.get 11 _ rfl,h.get 12 _ rfl,h.get 13 _ rfl⟩
theorem aA.aa5{v14 v15:Value}(h:aA w b (v0::v1::v2::v3::v4::v5::v6::v7::v8::v9::v10::v11::v12::v13::v14::v15::l)):w.cell? ⟨b,0,none⟩=some v0/\w.cell? ⟨b,1,none⟩=some v1/\w.cell? ⟨b,2,none⟩=some v2/\w.cell? ⟨b,3,none⟩=some v3/\w.cell? ⟨b,4,none⟩=some v4/\w.cell? ⟨b,5,none⟩=some v5/\w.cell? ⟨b,6,none⟩=some v6/\w.cell? ⟨b,7,none⟩=some v7/\w.cell? ⟨b,8,none⟩=some v8/\w.cell? ⟨b,9,none⟩=some v9/\w.cell? ⟨b,10,none⟩=some v10/\w.cell? ⟨b,11,none⟩=some v11/\w.cell? ⟨b,12,none⟩=some v12/\w.cell? ⟨b,13,none⟩=some v13/\w.cell? ⟨b,14,none⟩=some v14/\w.cell? ⟨b,15,none⟩=some v15:=⟨h.get 0 _ rfl,h.get 1 _ rfl,h.get 2 _ rfl,h.get 3 _ rfl,h.get 4 _ rfl,h.get 5 _ rfl,h.get 6 _ rfl,h.get 7 _ rfl,h.get 8 _ rfl,h.get 9 _ rfl,h.get 10 _ rfl,h.get 11 _ rfl,h.get 12 _ rfl,h.get 13 _ rfl,h.get 14 _ rfl,h.get 15 _ rfl⟩
structure Th where
 thread:Int
 az:Int
 loc:Tx
 deriving DecidableEq,Inhabited
@[reducible] def lW(t:Th):List Value:=[.int .i64 t.thread,.int .i64 t.az,.string (tx t.loc)]
@[reducible] def ko(t:Th):Value:=.agg #[.int .i64 t.thread,.int .i64 t.az,.string (tx t.loc)]
theorem On(x y:Th):(x=y)<->(x.thread=y.thread/\x.az=y.az/\x.loc=y.loc):=by
 cases x;cases y;simp
theorem xR(x y:Th)(w:World):(binOp .eql 25 (ko x) (ko y)).run prog w= .ok (.bool (decide (x=y))) w:=by
 have hS:prog.underlying 25=some (.struct (prog.fieldsOf 25)):=by kernel_rfl
 have hp:prog.stoodInHeld 25=false:=by kernel_rfl
 have a3:=isAgg3;have z3:=sizeOf3;have u3:=underlying3;have a4:=isAgg9;have z4:=sizeOf9;have u4:=underlying9;rw[run_eql_struct,show(10000:Nat)=9999+1 from rfl,run_equalIn_agg w 9999 25 _ _ hS hp];simp only[Program.fieldsOf,underlying25]
 go_simp
 rw[show decide (x=y)=decide (x.thread=y.thread/\x.az=y.az/\x.loc=y.loc)from decide_eq_decide.2 (On x y)];simp only[bh]
 by_cases h1:x.thread=y.thread<;>by_cases h2:x.az=y.az<;>by_cases h6:x.loc=y.loc<;>simp[h1,h2,h6]
theorem wH(x y:Th)(w:World):(binOp .neq 25 (ko x) (ko y)).run prog w= .ok (.bool (!decide (x=y))) w:=by
 have h:=xR x y w;rw[run_eql_struct]at h;rw[run_neq_struct];generalize (Op.equalIn 10000 25 (.agg #[.int .i64 x.thread,.int .i64 x.az,.string (tx x.loc)]) (.agg #[.int .i64 y.thread,.int .i64 y.az,.string (tx y.loc)])).run prog w=r at*;cases r with
 |ok b w'=>simp[Result.andThen]at h ⊢; obtain⟨rfl,rfl⟩:=h;exact⟨rfl,rfl⟩
 |halt x w'=>simp[Result.andThen]at h
theorem ep(x:Th):(lW x).length=3:=rfl
theorem JA(x:Th): ∀u∈lW x,u.oneCell'=true:=by
 intro u hu;simp only[lW,anE,aoa,or_false]at hu;rcases hu with rfl|rfl|rfl<;>rfl
theorem jR:gQ prog 112 25 (.agg #[.int .i64 0,.int .i64 0,.string an3]) 3 32:=⟨underlying112,by kernel_rfl,rfl,by decide⟩
inductive Nd where
 |mk (kind:Int) (th:Th) (val:Int) (a:Option Addr) (c:Nat) (kids:List Nd):Nd
def Nd.kind:Nd->Int| .mk k _ _ _ _ _=>k
def Nd.th:Nd->Th| .mk _ t _ _ _ _=>t
def Nd.val:Nd->Int| .mk _ _ v _ _ _=>v
def Nd.a:Nd->Option Addr| .mk _ _ _ a _ _=>a
def Nd.c:Nd->Nat| .mk _ _ _ _ c _=>c
def Nd.kids:Nd->List Nd| .mk _ _ _ _ _ l=>l
@[reducible] def cN(x:Nd):List Value:=[.int .i64 x.kind,.int .i64 x.th.thread,.int .i64 x.th.az,.string (tx x.th.loc),.int .i64 x.val,.slice x.a x.kids.length x.c]
@[reducible] def vN(x:Nd):Value:=.agg #[.int .i64 x.kind,.int .i64 x.th.thread,.int .i64 x.th.az,.string (tx x.th.loc),.int .i64 x.val,.slice x.a x.kids.length x.c]
theorem kN(x:Nd):(cN x).length=6:=rfl
theorem AY(x:Nd): ∀u∈cN x,u.oneCell'=true:=by
 intro u hu;simp only[cN,anE,aoa,or_false]at hu;rcases hu with rfl|rfl|rfl|rfl|rfl|rfl<;>rfl
theorem kG:gQ prog 26 28 (.agg #[.int .i64 0,.int .i64 0,.int .i64 0,.string an3,.int .i64 0,.slice none 0 0]) 6 72:=⟨underlying26,by kernel_rfl,rfl,by decide⟩
theorem Nd.ind{P:Nd->Prop}(h: ∀x:Nd,(∀k∈x.kids,P k)->P x): ∀x,P x
 | .mk k t v a c l=>h _ fun y hy=>Nd.ind h y
 termination_by x=>SizeOf.sizeOf x
 decreasing_by
  have:=List.sizeOf_lt_of_mem (show y∈l from hy);simp;omega
inductive fW(w:World):Nd->Prop where
 |mk (x:Nd) (hl:x.th.loc.length<=9223372036854775807) (hr:bK cN w x.a x.kids) (hc:x.kids.length<=x.c) (h: ∀k∈x.kids,fW w k):fW w x
theorem fW.loc{x:Nd}(h:fW w x):x.th.loc.length<=9223372036854775807:=by cases h;assumption
theorem fW.els{x:Nd}(h:fW w x):bK cN w x.a x.kids:=by cases h;assumption
theorem fW.cap{x:Nd}(h:fW w x):x.kids.length<=x.c:=by cases h;assumption
theorem fW.jz{x:Nd}(h:fW w x): ∀k∈x.kids,fW w k:=by cases h;assumption
theorem fW.keep(hb:Below w.heap.size w w'): ∀{x:Nd},fW w x->fW w' x:=by
 intro x
 induction x using Nd.ind with
 |h x ih=>intro h;exact⟨x,h.loc,h.els.below hb,h.cap,fun k hk=>ih k hk (h.jz k hk)⟩
def l9(w:World)(b:Nat)(x:Nd):Prop:=b<w.heap.size/\ ∀k,k<6->w.cell? ⟨b,k,none⟩=(cN x)[k]?
abbrev bN(x:Nd):Obj:=.cells #[.int .i64 x.kind,.int .i64 x.th.thread,.int .i64 x.th.az,.string (tx x.th.loc),.int .i64 x.val,.slice x.a x.kids.length x.c] 28
theorem l9.below{x:Nd}(h:l9 w b x)(hb:Below w.heap.size w w'):l9 w' b x:=
 ⟨anW h.1 hb.size,fun k hk=>by rw[hb.cell (p:=⟨b,k,none⟩) h.1];exact h.2 k hk⟩
theorem l9.new(w:World)(x:Nd):l9 (w.alloc (bN x)) w.heap.size x:=
 ⟨by simp,fun k hk=>by
  have hh:=heap_alloc_new w (bN x);simp only[anq,hh];simp[cN]⟩
theorem l9.cells{x:Nd}(h:l9 w b x):w.cell? ⟨b,0,none⟩=some (.int .i64 x.kind)/\w.cell? ⟨b,1,none⟩=some (.int .i64 x.th.thread)/\w.cell? ⟨b,2,none⟩=some (.int .i64 x.th.az)/\w.cell? ⟨b,3,none⟩=some (.string (tx x.th.loc))/\w.cell? ⟨b,4,none⟩=some (.int .i64 x.val)/\w.cell? ⟨b,5,none⟩=some (.slice x.a x.kids.length x.c):=
 ⟨h.2 0 (by omega),h.2 1 (by omega),h.2 2 (by omega),h.2 3 (by omega),h.2 4 (by omega),h.2 5 (by omega)⟩
theorem bK.nd{a:Option Addr}{l:List Nd}(h:bK cN w a l){x:Nd}(hk:l[k]? =some x):
 w.cell? ⟨bk a,fo a+k*6,none⟩=some (.int .i64 x.kind)/\w.cell? ⟨bk a,fo a+k*6+1,none⟩=some (.int .i64 x.th.thread)/\w.cell? ⟨bk a,fo a+k*6+2,none⟩=some (.int .i64 x.th.az)/\w.cell? ⟨bk a,fo a+k*6+3,none⟩=some (.string (tx x.th.loc))/\w.cell? ⟨bk a,fo a+k*6+4,none⟩=some (.int .i64 x.val)/\w.cell? ⟨bk a,fo a+k*6+5,none⟩=some (.slice x.a x.kids.length x.c):=
 ⟨h.cell0 kN hk (by omega),h.cell kN hk 1 (by omega),h.cell kN hk 2 (by omega),h.cell kN hk 3 (by omega),h.cell kN hk 4 (by omega),h.cell kN hk 5 (by omega)⟩
theorem bK.th{a:Option Addr}{l:List Th}(h:bK lW w a l){x:Th}(hk:l[k]? =some x):
 w.cell? ⟨bk a,fo a+k*3,none⟩=some (.int .i64 x.thread)/\w.cell? ⟨bk a,fo a+k*3+1,none⟩=some (.int .i64 x.az)/\w.cell? ⟨bk a,fo a+k*3+2,none⟩=some (.string (tx x.loc)):=
 ⟨h.cell0 ep hk (by omega),h.cell ep hk 1 (by omega),h.cell ep hk 2 (by omega)⟩
attribute [local go_sem high] qd gP
def cO(nm:Tx)(j:ay):Bool:=decide (j.op=12)&&decide (j.label=nm)
theorem abh(i j:ay)(b:Nat)(w:World)(hb:gH w b i):Calls prog 224 #[vI j,.pointer (some ⟨b,0,none⟩)] w (aJ w (.bool (cO i.label j))):=by
 obtain⟨c0,c1,c2,c3,c4,c5,c6,c7⟩:=hb.cells;have hlt:=hb.1;have B:=al w (kj j)
 by_cases h:j.op=12
 ·have z:(j.op==12)=true:=by simpa using h
  have e:cO i.label j=(j.label==i.label):=by unfold cO;rw[an8];simp[h]
  have z2:((tx j.label).toList==(tx i.label).toList)=(j.label==i.label):=iQ _ _;have HE:=hid e;generalize (j.label==i.label)=bb at*;clear h e;go_in;go_wp2;go_ret;exact⟨aQ HE.out.symm,aF⟩
 have z:(j.op==12)=false:=by simpa using h
 have HE:=hid (show cO i.label j=false by unfold cO;rw[decide_eq_false h];rfl);clear h;go_in;go_wp2;go_ret;exact⟨aQ HE.out.symm,aF⟩
def LL(o:Option Nat):Int:=match o with
 |some n=>n
 |none=> -1
theorem J7{l:List ay}(h: ∀j (hj:j<l.length),p l[j]=false):l.findIdx? p=none:=by
 rw[aos];intro x hx;obtain⟨i,hi,rfl⟩:=aoz.1 hx;exact h i hi
theorem J8{l:List ay}(hk:k<l.length)(h1:p l[k]=true)(h2: ∀j (hj:j<l.length),j<k->p l[j]=false):l.findIdx? p=some k:=by
 rw[aqy];exact⟨hk,h1,fun j hj=>by rw[h2 j (by omega) hj];simp⟩
theorem ahm(i:ay)(b:Nat)(l:List ay)(a:Option Addr)(c:Nat)(w:World)(h:Is w a l)(hb:gH w b i):
 Calls prog 277 #[.slice a l.length c,.func (.func 224) #[] #[.pointer (some ⟨b,0,none⟩)]] w (aJ w (.int .i64 (LL (l.findIdx? (cO i.label))))):=by
 have hl:=h.len;have B:=Below.refl w.heap.size w;go_in;go_wp2
 go_loopw [8] (fun i' wr=> ∃k:Nat,k<=l.length/\i'= .int .i64 k/\Hid (∀j (hj:j<l.length),j<k->cO i.label l[j]=false)/\Is wr a l/\gH wr b i/\Below w.heap.size w wr) (fun i' _=>l.length-(intOf i').toNat)
 ·exact⟨0,by omega,rfl,hid (fun j hj h'=>absurd h' (Nat.not_lt_zero j)),h,hb,B⟩
 clear h hb B;obtain⟨k,hk,rfl,HK,h,hb,B⟩:=hrel
 by_cases hlt:k<l.length
 ·obtain⟨f,hf⟩: ∃f,l[k]? =some f:=⟨_,am9 hlt⟩
  have tf:l[k]=f:=Option.some.inj ((am9 hlt).symm.trans hf);obtain⟨p0,p1,p2,p3,p4,p5,p6,p7⟩:=h.cells hf;have ix:=h.idx k hlt;have HF:=hid tf;clear hf tf;cases hm:cO i.label f
  all_goals
   have HM:=hid hm;clear hm;go_wp2_with fail;refine(abh i f b _ hb).mono ?_;rintro e' w7 ⟨rfl,E7⟩;rw[HM.out];have h:=h.below E7;have hb:=hb.below E7;have B:=B.trans (E7.mono B.size);clear p0 p1 p2 p3 p4 p5 p6 p7 ix;go_wp2_with fail
  ·go_roundw
   case rel=>exact⟨k+1,by omega,by go_num,hid (fun j hj hjk=>by
    by_cases hh:j=k
    ·subst hh;rw[HF.out];exact HM.out
    exact HK.out j hj (by omega)),h,hb,B⟩
   case measure=>simp[intOf];omega
  have HR:=hid (J8 hlt (by rw[HF.out];exact HM.out) HK.out)
  go_ret;exact⟨bQ (by rw[HR.out];rfl),B⟩
 have HR:=hid (J7 (fun j hj=>HK.out j hj (by omega)))
 go_wp2;go_ret;exact⟨bQ (by rw[HR.out];rfl),B⟩
theorem ag5(i:ay)(b:Nat)(l:List ay)(a:Option Addr)(c:Nat)(w:World)(h:Is w a l)(hb:gH w b i):
 Calls prog 223 #[.slice a l.length c,.func (.func 224) #[] #[.pointer (some ⟨b,0,none⟩)]] w (aJ w (.bool (l.findIdx? (cO i.label)).isSome)):=by
 have C:=hid (ahm i b l a c w h hb);generalize l.findIdx? (cO i.label)=r at*;generalize l.length=n at*;clear h hb;cases r with
 | none=>
   go_in;go_wp2_with fail;refine C.out.mono ?_;rintro e w1 ⟨rfl,E⟩;have z:LL none= -1:=rfl;go_wp2;go_ret;exact⟨rfl,E⟩
 | some k=>
   have z:LL (some k)=(k:Int):=rfl;have hk:(0:Int)<=(k:Int):=by omega
   rw[z]at C;clear z;go_in;go_wp2_with fail;refine C.out.mono ?_;rintro e w1 ⟨rfl,E⟩;go_wp2;go_ret;exact⟨aQ (by simp),E⟩
open Go.Maps
def jE(code:List ay)(k:Nat):Option Int:=match code[k]? with
 |none=>some (-1)
 | some i=>
   if i.op=12 then(if code.findIdx? (cO i.label)=some k then some (-1)else none)
   else if i.op=11 then(match code.findIdx? (cO i.label)with
    |none=>none
    |some at'=>if((code.drop (k+1)).findIdx? (cO i.label)).isSome then some (at':Int)else none)
   else some (-1)
def gi(code:List ay)(k:Nat):Option Int:=match code[k]? with
 |none=>some (-1)
 | some i=>
   if i.op=12 then(if(code.take k).any (cO i.label)then none else some (-1))
   else if i.op=11 then((code.drop (k+1)).findIdx? (cO i.label)).map fun j=>((k+1+j:Nat):Int)
   else some (-1)
def rQ(code:List ay)(k:Nat):List Int:=(apO k).map fun j=>(jE code j).getD (-1)
def l7(code:List ay)(k:Nat):List Int:=(apO k).map fun j=>(gi code j).getD (-1)
def jg(code:List ay):List Int × Int × Int:=
 if 256<code.length then([],2,0)
 else match code.findIdx? fun i=> !bX i with
  |some k=>([],91,k)
  | none=>match (apO code.length).find? fun k=>(gi code k).isNone with
    |some k=>([],93,k)
    |none=>(l7 code code.length,0,0)
theorem rL{nm:Tx}{j:ay}:cO nm j=true<->j.op=12/\j.label=nm:=by unfold cO;simp
theorem wR(code:List ay)(k:Nat):jE code k=none<->gi code k=none:=by
 unfold jE gi;cases hk:code[k]? with
 |none=>simp
 | some i=>
   obtain⟨hlt,he⟩:=anx.1 hk;simp only
   by_cases h12:i.op=12
   ·rw[if_pos h12,if_pos h12]
    have BY:cO i.label code[k]=true:=by rw[he,rL];exact⟨h12,rfl⟩
    by_cases BB:(code.take k).any (cO i.label)=true
    ·rw[if_pos BB]
     have: ¬code.findIdx? (cO i.label)=some k:=by
      intro hf;rw[aqy]at hf;obtain⟨_,_,h3⟩:=hf;rw[an1]at BB;obtain⟨x,hx,hp⟩:=BB;obtain⟨j,hj,rfl⟩:=aoz.1 hx;simp at hj;rw[List.getElem_take]at hp;exact absurd hp (h3 j (by omega))
     rw[if_neg this]
    rw[if_neg BB]
    have:code.findIdx? (cO i.label)=some k:=by
     refine J8 hlt BY (fun j hj hjk=>?_);cases hb:cO i.label code[j]with
     |false=>rfl
     | true=>
       refine absurd (an1.2 ⟨code[j],?_,hb⟩) BB;rw[List.mem_take_iff_getElem];exact⟨j,by omega,rfl⟩
    rw[if_pos this]
   rw[if_neg h12,if_neg h12]
   by_cases h11:i.op=11
   ·rw[if_pos h11,if_pos h11]
    cases hl:(code.drop (k+1)).findIdx? (cO i.label)with
    | none=>
      cases code.findIdx? (cO i.label)<;>simp
    | some j=>
      rw[aqy]at hl;obtain⟨hj,hp, -⟩:=hl;cases hf:code.findIdx? (cO i.label)with
      | none=>
        rw[aos]at hf;rw[aor]at hp;rw[hf _ (List.getElem_mem _)]at hp;cases hp
      |some at'=>simp
   rw[if_neg h11,if_neg h11]
theorem akP(code:List ay)(h: ∀k,k<code.length->jE code k≠none)(k:Nat):jE code k=gi code k:=by
 unfold jE gi;cases hk:code[k]? with
 |none=>rfl
 | some i=>
   obtain⟨hlt,he⟩:=anx.1 hk;have hn:=h k hlt;have hn2:gi code k≠none:=fun e=>hn ((wR code k).2 e)
   unfold jE at hn;unfold gi at hn2;rw[hk]at hn hn2;simp only at hn hn2⊢
   by_cases h12:i.op=12
   ·rw[if_pos h12]at hn hn2⊢
    rw[if_pos h12]
    split at hn
    ·split at hn2
     ·exact absurd rfl hn2
     rename_i a b;rw[if_pos a,if_neg b]
    exact absurd rfl hn
   rw[if_neg h12]at hn hn2⊢
   rw[if_neg h12]
   by_cases h11:i.op=11
   ·rw[if_pos h11]at hn hn2⊢
    rw[if_pos h11];cases hl:(code.drop (k+1)).findIdx? (cO i.label)with
    |none=>rw[hl]at hn2;simp at hn2
    | some j=>
      rw[aqy]at hl;obtain⟨hj,hp, -⟩:=hl;simp at hj;rw[aor,rL]at hp;have hL:=h (k+1+j) (by omega);unfold jE at hL;rw[am9 (by omega)]at hL;simp only at hL;rw[if_pos hp.1,hp.2]at hL
      split at hL
      ·rename_i hf
       rw[hf];simp
      exact absurd rfl hL
   rw[if_neg h11,if_neg h11]
theorem WX(code:List ay)(h: ∀k,k<code.length->jE code k≠none)(n:Nat):rQ code n=l7 code n:=by
 unfold rQ l7;exact List.map_congr_left fun k _=>by rw[akP code h k]
theorem MU(code:List ay)(k:Nat):(rQ code k).length=k:=by simp[rQ]
theorem WW(code:List ay)(k:Nat):rQ code (k+1)=rQ code k++[(jE code k).getD (-1)]:=by simp[rQ,List.range_succ]
theorem VP(h:256<code.length):jg code=([],2,0):=by unfold jg;rw[if_pos h]
theorem VO(h:code.length<=256)(hk:k<code.length)(h1:bX code[k]=false)(h2: ∀j (hj:j<code.length),j<k->bX code[j]=true):jg code=([],91,(k:Int)):=by
 unfold jg;rw[if_neg (by omega),J8 hk (by rw[h1];rfl) (fun j hj hjk=>by rw[h2 j hj hjk];rfl)]
theorem find_range{n:Nat}{p:Nat->Bool}(hk:k<n)(h1:p k=true)(h2: ∀j,j<k->p j=false):(apO n).find? p=some k:=by
 rw[List.find?_range_eq_some];exact⟨h1,by simpa using hk,fun j hj=>by rw[h2 j hj];rfl⟩
theorem Gr(h:code.length<=256)(hc: ∀j (hj:j<code.length),bX code[j]=true)(hk:k<code.length)(h1:jE code k=none)(h2: ∀j,j<k->jE code j≠none):jg code=([],93,(k:Int)):=by
 unfold jg;rw[if_neg (by omega),J7 (fun j hj=>by rw[hc j hj];rfl)];simp only
 rw[find_range hk (by rw[(wR code k).1 h1];rfl) (fun j hj=>by
  cases hs:gi code j with
  |none=>exact absurd ((wR code j).2 hs) (h2 j hj)
  |some v=>rfl)]
theorem VQ(h:code.length<=256)(hc: ∀j (hj:j<code.length),bX code[j]=true)(h2: ∀j,j<code.length->jE code j≠none):jg code=(rQ code code.length,0,0):=by
 unfold jg;rw[if_neg (by omega),J7 (fun j hj=>by rw[hc j hj];rfl)];simp only
 have:(apO code.length).find? (fun k=>(gi code k).isNone)=none:=by
  rw[List.find?_eq_none];intro j hj;simp at hj;cases hs:gi code j with
  |none=>exact absurd ((wR code j).2 hs) (h2 j hj)
  |some v=>simp
 rw[this,WX code h2]
def qU(code:List ay)(m:Nat)(D:DataW Unit):Prop:=
 ∀nm:Tx,(∀j,(code.drop m).findIdx? (cO nm)=some j->Maps.has D (.string nm)=true/\D.atKey (.string nm) (.lit (.int .i64 0))= .lit (.int .i64 ((m+j:Nat):Int)))/\((code.drop m).findIdx? (cO nm)=none->Maps.has D (.string nm)=false)
theorem qU.nil(code:List ay)(m:Nat)(h:code.length<=m):qU code m (.map []):=by
 intro nm;rw[List.drop_eq_nil_of_le h];exact⟨fun j hj=>by simp at hj,fun _=>rfl⟩
theorem findIdx_cons(p:ay->Bool)(x:ay)(l:List ay):(x::l).findIdx? p=if p x then some 0 else(l.findIdx? p).map (· +1):=by
 rw[List.findIdx?_cons]
theorem qU.skip(h:qU code (m+1) D)(hi:code[m]? =some i)(hop:i.op≠12):qU code m D:=by
 intro nm;obtain⟨hlt,he⟩:=anx.1 hi;rw[aoI hlt,he,findIdx_cons,if_neg (by rw[rL];exact fun h=>hop h.1)];obtain⟨h1,h2⟩:=h nm;refine⟨fun j hj=>?_,fun hn=>h2 (by simpa using hn)⟩;rw[aqH]at hj;obtain⟨j',hj',rfl⟩:=hj;obtain⟨a,b⟩:=h1 j' hj';exact⟨a,by rw[b];congr 3;omega⟩
theorem qU.put(h:qU code (m+1) D)(hm:IsMap D)(hi:code[m]? =some i)(hop:i.op=12)(hk:WideAt.IsKeyLit (.string i.label)):qU code m (D.put (.string i.label) (.lit (.int .i64 (m:Int)))):=by
 intro nm;obtain⟨hlt,he⟩:=anx.1 hi;rw[aoI hlt,he,findIdx_cons];obtain⟨h1,h2⟩:=h nm
 by_cases hn:i.label=nm
 ·subst hn
  rw[if_pos (by rw[rL];exact⟨hop,rfl⟩)];refine⟨fun j hj=>?_,fun hn=>by simp at hn⟩;simp at hj;subst hj;exact⟨has_put_same hm hk _,by rw[atKey_put_same hm hk];rfl⟩
 rw[if_neg (by rw[rL];exact fun h=>hn h.2)]
 have hne:(Lit.string nm)≠ .string i.label:=fun e=>hn (by cases e;rfl)
 refine⟨fun j hj=>?_,fun hn'=>?_⟩
 ·rw[aqH]at hj
  obtain⟨j',hj',rfl⟩:=hj;obtain⟨a,b⟩:=h1 j' hj';rw[has_put_other hne,atKey_put_other hne];exact⟨a,by rw[b];congr 3;omega⟩
 rw[has_put_other hne];exact h2 (by simpa using hn')
def bT:Th:=⟨0,0,[]⟩
def dO(af:Int):Int:=if af=1 then 15 else 32
def bF(af:Int):Bool:=decide (af=1)||decide (af=2)
def dI(af:Int)(t:Th):Bool:=
 if t.thread= -1 then decide (t.az=0)&&aC t.loc
 else decide (0<=t.thread)&&decide (t.thread<16)&&decide (0<=t.az)&&decide (t.az<dO af)&&decide (t.loc=[])
def gE(af:Int)(kind:Int)(t:Th)(v:Int)(n:Nat):Bool:=
 if kind=2 then dI af t&&bO v&&decide (n=0)
 else decide (t=bT)&&decide (v=0)&&(if kind=1 then decide (n=0)else if kind=3 then decide (n=1)else if kind=4\/kind=5 then decide (2<=n)else false)
mutual
def eO(af:Int):Nd->Nat->Nat->Nat × Int
 | .mk k t v a c l,met,deep=>if 1024<=met\/64<=deep then(met,2)else if gE af k t v l.length=false then(met,80)else jl af l (met+1) (deep+1)
def jl(af:Int):List Nd->Nat->Nat->Nat × Int
 |[],met,_=>(met,0)
 |x::r,met,deep=>if(eO af x met deep).2=0 then jl af r (eO af x met deep).1 deep else eO af x met deep
end
theorem DF(af:Int)(x:Nd)(met deep:Nat):eO af x met deep=if 1024<=met\/64<=deep then(met,2)else if gE af x.kind x.th x.val x.kids.length=false then(met,80)else jl af x.kids (met+1) (deep+1):=by
 cases x;rw[eO];rfl
theorem Hu{af:Int}{x:Nd}{r:List Nd}{met deep:Nat}:jl af (x::r) met deep=if(eO af x met deep).2=0 then jl af r (eO af x met deep).1 deep else eO af x met deep:=by rw[jl]
theorem DA{af:Int}{met deep:Nat}:jl af [] met deep=(met,0):=by rw[jl]
theorem Z4{af:Int}{l:List Nd}{k:Nat}{x:Nd}(hk:l[k]? =some x)(met deep:Nat):jl af (l.drop k) met deep=if(eO af x met deep).2=0 then jl af (l.drop (k+1)) (eO af x met deep).1 deep else eO af x met deep:=by
 obtain⟨hlt,rfl⟩:=anx.1 hk;rw[aoI hlt,Hu]
theorem Z7(af:Int): ∀(x:Nd) (met deep:Nat),met<=1024->(eO af x met deep).1<=1024:=by
 intro x
 induction x using Nd.ind with
 | h x ih=>
   intro met deep hm;rw[DF];split
   ·exact hm
   rename_i h
   split
   ·exact hm
   have key: ∀(l:List Nd),(∀k∈l,k∈x.kids)-> ∀met deep,met<=1024->(jl af l met deep).1<=1024:=by
    intro l
    induction l with
    |nil=>intro _ met deep hm;rw[DA];exact hm
    | cons y r ihl=>
      intro hin met deep hm;have h1:=ih y (hin y (by simp)) met deep hm;rw[Hu];split
      ·exact ihl (fun k hk=>hin k (by simp[hk])) _ _ h1
      exact h1
   exact key _ (fun k hk=>hk) _ _ (by omega)
def cV(af XZ:Int)(x:Nd):Int:=if bF af=false then 5 else if XZ<1\/3<XZ then 80 else(eO af x 0 0).2
def ek(af:Int)(n:Nat):Tx:=if af=1 then cI n else iu n
def alc(af:Int)(t:Th):Tx:=if t.thread= -1 then t.loc else Lib.itoa t.thread++[58]++ek af t.az.toNat
def aaR(af:Int)(t:Th)(v:Int):Tx:=alc af t++[61]++Lib.itoa v
def NR:Tx:=[32,47,92,32]
def NS:Tx:=[32,92,47,32]
def LM(b:Bool)(s:Tx):Tx:=if b then 40::s++[41]else s
def weak(and:Bool)(k:Int):Bool:=(and&&decide (k=4))||decide (k=5)
mutual
def Om(af:Int):Nd->Tx
 | .mk k t v a c l=>if k=1 then[116,114,117,101]else if k=2 then aaR af t v else if k=3 then 126::Ol af true [] l else if k=4 then Ol af true NR l else Ol af false NS l
def Ol(af:Int)(and:Bool)(sep:Tx):List Nd->Tx
 |[]=>[]
 |x::r=>LM (weak and x.kind) (Om af x)++tM af and sep r
def tM(af:Int)(and:Bool)(sep:Tx):List Nd->Tx
 |[]=>[]
 |x::r=>sep++(LM (weak and x.kind) (Om af x)++tM af and sep r)
end
theorem ZA{af:Int}{and:Bool}{sep:Tx}:tM af and sep []=[]:=by rw[tM]
theorem Zz{af:Int}{and:Bool}{sep:Tx}{x:Nd}{r:List Nd}:tM af and sep (x::r)=sep++(LM (weak and x.kind) (Om af x)++tM af and sep r):=by rw[tM]
mutual
def mD:Nd->Nat
 | .mk k t v a c l=>1+iG l
def iG:List Nd->Nat
 |[]=>0
 |x::r=>mD x+iG r
end
theorem A9(x:Nd):mD x=1+iG x.kids:=by cases x;rw[mD];rfl
theorem vF:iG []=0:=by rw[iG]
theorem rq{x:Nd}{r:List Nd}:iG (x::r)=mD x+iG r:=by rw[iG]
theorem vE: ∀(l r:List Nd),iG (l++r)=iG l+iG r
 |[],r=>by rw[vF];simp
 |x::l,r=>by rw[aod,rq,rq,vE l r];omega
inductive gp(af:Int):Nd->Prop where
 |mk (x:Nd) (h:gE af x.kind x.th x.val x.kids.length=true) (hk: ∀y∈x.kids,gp af y):gp af x
theorem gp.may{af:Int}{x:Nd}(h:gp af x):gE af x.kind x.th x.val x.kids.length=true:=by cases h;assumption
theorem gp.jz{af:Int}{x:Nd}(h:gp af x): ∀y∈x.kids,gp af y:=by cases h;assumption
theorem al7(af:Int): ∀(x:Nd) (met deep m:Nat),eO af x met deep=(m,0)->gp af x/\m=met+mD x/\m<=1024:=by
 intro x
 induction x using Nd.ind with
 | h x ih=>
   intro met deep m h;rw[DF]at h
   by_cases h1:1024<=met\/64<=deep
   ·rw[if_pos h1]at h;cases h
   rw[if_neg h1]at h
   by_cases h2:gE af x.kind x.th x.val x.kids.length=false
   ·rw[if_pos h2]at h;cases h
   rw[if_neg h2]at h
   have key: ∀(l:List Nd),(∀k∈l,k∈x.kids)-> ∀met deep m,met<=1024->jl af l met deep=(m,0)->(∀y∈l,gp af y)/\m=met+iG l/\m<=1024:=by
    intro l
    induction l with
    |nil=>intro _ met deep m hm h;rw[DA]at h;cases h;exact⟨fun y hy=>absurd hy (by simp),by rw[vF];omega,hm⟩
    | cons y r ihl=>
      intro hin met deep m hm h;rw[Hu]at h
      by_cases h3:(eO af y met deep).2=0
      ·rw[if_pos h3]at h
       obtain⟨o1,e1,b1⟩:=ih y (hin y (by simp)) met deep (eO af y met deep).1 (by rw[<-h3]);obtain⟨o2,e2,b2⟩:=ihl (fun k hk=>hin k (by simp[hk])) _ _ _ b1 h;exact⟨fun z hz=>by rcases anE.1 hz with rfl|hz;exact o1;exact o2 z hz,by rw[rq];omega,b2⟩
      rw[if_neg h3]at h;rw[h]at h3;exact absurd rfl h3
   obtain⟨o,e,b⟩:=key _ (fun k hk=>hk) _ _ _ (by omega) h;exact⟨⟨x,by simpa using h2,o⟩,by rw[A9];omega,b⟩
theorem JS{af q:Int}{x:Nd}(h:cV af q x=0):bF af=true/\1<=q/\q<=3/\gp af x/\mD x<=1024:=by
 unfold cV at h
 by_cases ha:bF af=false
 ·rw[if_pos ha]at h;cases h
 rw[if_neg ha]at h
 by_cases hq:q<1\/3<q
 ·rw[if_pos hq]at h;cases h
 rw[if_neg hq]at h;obtain⟨o,e,b⟩:=al7 af x 0 0 (eO af x 0 0).1 (by rw[<-h]);exact⟨by simpa using ha,by omega,by omega,o,by omega⟩
theorem afJ{af k v:Int}{t:Th}{n:Nat}(h:gE af k t v n=true):(k=1/\n=0)\/(k=2/\dI af t=true/\bO v=true/\n=0)\/(k=3/\n=1)\/(k=4/\2<=n)\/(k=5/\2<=n):=by
 unfold gE at h
 by_cases h2:k=2
 ·rw[if_pos h2]at h
  simp only[anS,decide_eq_true_eq]at h;exact .inr (.inl ⟨h2,h.1.1,h.1.2,h.2⟩)
 rw[if_neg h2]at h;simp only[anS,decide_eq_true_eq]at h;obtain⟨-, h⟩:=h
 by_cases h1:k=1
 ·rw[if_pos h1]at h;exact .inl ⟨h1,by simpa using h⟩
 rw[if_neg h1]at h
 by_cases h3:k=3
 ·rw[if_pos h3]at h;exact .inr (.inr (.inl ⟨h3,by simpa using h⟩))
 rw[if_neg h3]at h
 by_cases h4:k=4\/k=5
 ·rw[if_pos h4]at h
  rcases h4 with rfl|rfl
  ·exact .inr (.inr (.inr (.inl ⟨rfl,by simpa using h⟩)))
  exact .inr (.inr (.inr (.inr ⟨rfl,by simpa using h⟩)))
 rw[if_neg h4]at h;cases h
theorem ald{af:Int}{t:Th}(h:dI af t=true):(t.thread= -1/\t.az=0/\aC t.loc=true)\/(∃(i k:Nat),t=⟨i,k,[]⟩/\i<16/\(k:Int)<dO af):=by
 obtain⟨th,rg,loc⟩:=t;unfold dI at h;simp only at h
 by_cases h1:th= -1
 ·rw[if_pos h1]at h
  simp only[anS,decide_eq_true_eq]at h;exact .inl ⟨h1,h.1,h.2⟩
 rw[if_neg h1]at h
 simp only[anS,decide_eq_true_eq]at h;obtain⟨⟨⟨⟨a,b⟩,c⟩,d⟩,e⟩:=h;refine .inr ⟨th.toNat,rg.toNat,?_,by omega,by omega⟩;simp only[Th.mk.injEq];exact⟨by omega,by omega,e⟩
set_option linter.unusedSectionVars false
section
variable {α:Type} [DecidableEq α]
def cZ:List α->List α
 |[]=>[]
 | x::r=>match r with
   |[]=>[x]
   |y::_=>if x=y then cZ r else x::cZ r
theorem Rx:cZ ([]:List α)=[]:=rfl
theorem A8(x:α):cZ [x]=[x]:=rfl
theorem rj(x y:α)(r:List α):cZ (x::y::r)=if x=y then cZ (y::r)else x::cZ (y::r):=rfl
theorem JL: ∀(l:List α) (y x:α),cZ (l++[y]++[x])=if x=y then cZ (l++[y])else cZ (l++[y])++[x]
 | [],y,x=>by
   simp only[anu,aod,rj,A8]
   by_cases h:x=y
   ·rw[if_pos h.symm,if_pos h,h]
   rw[if_neg (Ne.symm h),if_neg h]
 | [z],y,x=>by
   simp only[anu,aod,rj,A8]
   by_cases h:x=y<;>by_cases h':z=y<;>simp[h,h',eq_comm]<;>(try(intro h2;exact absurd h2.symm h))<;>simp_all [eq_comm]
 | z::u::r,y,x=>by
   have ih:=JL (u::r) y x;simp only[aod]at ih⊢;rw[rj,rj,ih]
   by_cases h:x=y<;>by_cases h':z=u<;>simp[h,h']
theorem JJ{l:List α}{z:α}:z∈cZ l<->z∈l:=by
 induction l with
 |nil=>simp[Rx]
 | cons x r ih=>
   cases r with
   |nil=>simp[A8]
   | cons y r=>
     rw[rj]
     by_cases h:x=y
     ·rw[if_pos h,ih];simp[h]
     rw[if_neg h,anE,ih];simp
theorem Ry{l:List α}(h: ∀i (h1:i+1<l.length),l[i+1]≠l[i]'(by omega)):cZ l=l:=by
 induction l with
 |nil=>rfl
 | cons x r ih=>
   cases r with
   |nil=>rfl
   | cons y r=>
     have h0:=h 0 (by simp);simp at h0;rw[rj,if_neg (Ne.symm h0),ih (fun i h1=>by have:=h (i+1) (by simp at h1 ⊢; omega);simpa using this)]
theorem Rv(l:List α):(cZ l).length<=l.length:=by
 induction l with
 |nil=>simp[Rx]
 | cons x r ih=>
   cases r with
   |nil=>simp[A8]
   | cons y r=>
     rw[rj];split
     ·simp at ih ⊢; omega
     simp at ih ⊢; omega
theorem NK{lt:α->α->Prop}(L9: ∀a,¬lt a a)(QL: ∀a b,lt a b->lt b a->False): ∀{l r:List α},l.Pairwise lt->r.Pairwise lt->(∀x,x∈l<->x∈r)->l=r
 |[],[],_,_,_=>rfl
 |[],y::r,_,_,h=>by have:=(h y).2 (by simp);simp at this
 |x::l,[],_,_,h=>by have:=(h x).1 (by simp);simp at this
 | x::l,y::r,h1,h2,h=>by
   obtain⟨a1,b1⟩:=anD.1 h1;obtain⟨a2,b2⟩:=anD.1 h2
   have hxy:x=y:=by
    have hx:=(h x).1 (by simp);have hy:=(h y).2 (by simp);rcases anE.1 hx with e|hx
    ·exact e
    rcases anE.1 hy with e|hy
    ·exact e.symm
    exact(QL _ _ (a2 x hx) (a1 y hy)).elim
   subst hxy
   have:l=r:=NK L9 QL b1 b2 (fun z=>by
    have hz:=h z;simp only[anE]at hz
    constructor
    ·intro hm
     rcases hz.1 (.inr hm)with e|e
     ·subst e;exact(L9 _ (a1 _ hm)).elim
     exact e
    intro hm
    rcases hz.2 (.inr hm)with e|e
    ·subst e;exact(L9 _ (a2 _ hm)).elim
    exact e)
   rw[this]
theorem JK{lt:α->α->Prop}(tr: ∀a b c,lt a b->lt b c->lt a c): ∀{l:List α},l.Pairwise (fun a b=>a=b\/lt a b)->(cZ l).Pairwise lt
 |[],_=>aqJ
 |[x],_=>by rw[A8];simp
 | x::y::r,h=>by
   obtain⟨a1,b1⟩:=anD.1 h;have ih:=JK tr b1;rw[rj]
   by_cases e:x=y
   ·rw[if_pos e];exact ih
   rw[if_neg e,anD]
   refine⟨fun z hz=>?_,ih⟩;have hz:=JJ.1 hz;have hxy:lt x y:=(a1 y (by simp)).resolve_left e;rcases a1 z hz with e'|e'
   ·subst e'
    rcases anE.1 hz with e2|e2
    ·exact absurd e2 e
    rcases(anD.1 b1).1 x e2 with e3|e3
    ·exact absurd e3.symm e
    exact tr _ _ _ hxy e3
   exact e'
end
def cm:Tx->Tx->Bool
 |[],[]=>false
 |[],_::_=>true
 |_::_,[]=>false
 |a::s,b::t=>if a<b then true else if b<a then false else cm s t
theorem Oz(a:UInt8): ¬a<a:=by rw[aqA];omega
theorem alT{a b c:UInt8}(h:a<b)(h':b<c):a<c:=by rw[aqA]at *; omega
theorem alS{a b:UInt8}(h:a<b): ¬b<a:=by rw[aqA]at *; omega
theorem Dy{a b:UInt8}(h: ¬a<b)(h': ¬b<a):a=b:=by rw[aqA]at *; exact aph.1 (by omega)
theorem MB: ∀a,cm a a=false
 |[]=>rfl
 |a::s=>by unfold cm;rw[if_neg (Oz a),if_neg (Oz a)];exact MB s
theorem Mz: ∀{a b:Tx},cm a b=true->cm b a=false
 |[],[],h=>by cases h
 |[],_::_,_=>rfl
 |_::_,[],h=>by cases h
 | a::s,b::t,h=>by
   unfold cm at h⊢
   by_cases h1:a<b
   ·rw[if_neg (alS h1),if_pos h1]
   rw[if_neg h1]at h
   by_cases h2:b<a
   ·rw[if_pos h2]at h;cases h
   rw[if_neg h2]at h ⊢; rw[if_neg h1];exact Mz h
theorem Cq: ∀{a b:Tx},cm a b=false->cm b a=false->a=b
 |[],[],_,_=>rfl
 |[],_::_,h,_=>by cases h
 |_::_,[],_,h=>by cases h
 | a::s,b::t,h,h'=>by
   unfold cm at h h'
   by_cases h1:a<b
   ·rw[if_pos h1]at h;cases h
   rw[if_neg h1]at h h'
   by_cases h2:b<a
   ·rw[if_pos h2]at h';cases h'
   rw[if_neg h2]at h h';rw[Dy h1 h2,Cq h h']
theorem Cp: ∀{a b c:Tx},cm a b=true->cm b c=true->cm a c=true
 |[],[],_,h,_=>by cases h
 |[],_::_,[],_,h=>by cases h
 |[],_::_,_::_,_,_=>rfl
 |_::_,[],_,h,_=>by cases h
 |_::_,_::_,[],_,h=>by cases h
 | a::s,b::t,c::cs,h,h'=>by
   unfold cm at h h'⊢
   by_cases h1:a<b
   ·by_cases h2:b<c
    ·rw[if_pos (alT h1 h2)]
    rw[if_neg h2]at h'
    by_cases h3:c<b
    ·rw[if_pos h3]at h';cases h'
    have:=Dy h2 h3;subst this;rw[if_pos h1]
   rw[if_neg h1]at h
   by_cases h2:b<a
   ·rw[if_pos h2]at h;cases h
   rw[if_neg h2]at h
   have:=Dy h1 h2;subst this
   by_cases h3:a<c
   ·rw[if_pos h3]
   rw[if_neg h3]at h'⊢
   by_cases h4:c<a
   ·rw[if_pos h4]at h';cases h'
   rw[if_neg h4]at h' ⊢; exact Cp h h'
theorem RL: ∀(a b:Tx),decide (aqG a b<0)=cm a b
 |[],[]=>rfl
 |[],_::_=>rfl
 |_::_,[]=>rfl
 | a::s,b::t=>by
   unfold aqG cm
   by_cases h1:a<b
   ·rw[if_pos h1,if_pos h1];rfl
   rw[if_neg h1,if_neg h1]
   by_cases h2:b<a
   ·rw[if_pos h2,if_pos h2];rfl
   rw[if_neg h2,if_neg h2];exact RL s t
def oc(a b:Th):Int:=
 if a.thread= -1/\b.thread= -1 then aqG a.loc b.loc
 else if a.thread= -1 then 1 else if b.thread= -1 then -1
 else if a.thread≠b.thread then a.thread-b.thread else a.az-b.az
def dD(a b:Th):Bool:=
 if(a.thread= -1)≠(b.thread= -1)then decide (b.thread= -1)
 else if a.thread≠b.thread then decide (a.thread<b.thread)
 else if a.az≠b.az then decide (a.az<b.az)
 else cm a.loc b.loc
abbrev gV:={ t:Th // dI 2 t=true }
instance:Inhabited gV:=⟨⟨⟨0,0,[]⟩,by decide⟩⟩
theorem ng(t:gV):(t.1.thread= -1/\t.1.az=0)\/(0<=t.1.thread/\t.1.thread<16/\0<=t.1.az/\t.1.az<32/\t.1.loc=[]):=by
 obtain⟨t,h⟩:=t;rcases ald h with⟨h1,h2,h3⟩|⟨i,k,rfl,hi,hk⟩
 ·exact .inl ⟨h1,h2⟩
 exact .inr ⟨by simp only;omega,by simp only;omega,by simp only;omega,by simp only;unfold dO at hk;rw[if_neg (by omega)]at hk;omega,rfl⟩
theorem abc(a b:gV):decide (oc a.1 b.1<0)=dD a.1 b.1:=by
 unfold oc dD;rcases ng a with⟨a1,a2⟩|⟨a1,a2,a3,a4,a5⟩
 ·rcases ng b with⟨b1,b2⟩|⟨b1,b2,b3,b4,b5⟩
  ·rw[if_pos ⟨a1,b1⟩,if_neg (by simp[a1,b1]),if_neg (by simp[a1,b1]),if_neg (by simp[a2,b2]),RL]
  rw[if_neg (by omega),if_pos a1,if_pos (by simp[a1];omega)];simp;omega
 rcases ng b with⟨b1,b2⟩|⟨b1,b2,b3,b4,b5⟩
 ·rw[if_neg (by omega),if_neg (by omega),if_pos b1,if_pos (by simp[b1];omega)];simp;omega
 have n1: ¬((a.1.thread= -1)≠(b.1.thread= -1)):=ah
 rw[if_neg (by omega),if_neg (by omega),if_neg (by omega),if_neg (c:=(a.1.thread= -1)≠(b.1.thread= -1)) n1]
 by_cases h:a.1.thread=b.1.thread
 ·rw[if_neg (by simpa using h),if_neg (by simpa using h)]
  by_cases h2:a.1.az=b.1.az
  ·rw[if_neg (by simpa using h2),a5,b5,h2];simp[cm]
  rw[if_pos h2];rw[an8];simp;omega
 rw[if_pos h,if_pos h];rw[an8];simp;omega
def kS(a b:gV):Prop:=dD a.1 b.1=true
theorem My(a:gV): ¬kS a a:=by
 unfold kS dD;simp[MB]
theorem V8{a b:gV}(h:kS a b):(a.1.thread≠ -1/\b.1.thread= -1)\/(a.1.thread= -1/\b.1.thread= -1/\cm a.1.loc b.1.loc=true)\/(a.1.thread≠ -1/\b.1.thread≠ -1/\(a.1.thread<b.1.thread\/a.1.thread=b.1.thread/\a.1.az<b.1.az)):=by
 unfold kS dD at h;rcases ng a with⟨a1,a2⟩|⟨a1,a2,a3,a4,a5⟩
 ·rcases ng b with⟨b1,b2⟩|⟨b1,b2,b3,b4,b5⟩
  ·rw[if_neg (by simp[a1,b1]),if_neg (by simp[a1,b1]),if_neg (by simp[a2,b2])]at h
   exact .inr (.inl ⟨a1,b1,h⟩)
  rw[if_pos (by simp[a1];omega)]at h;simp at h;omega
 rcases ng b with⟨b1,b2⟩|⟨b1,b2,b3,b4,b5⟩
 ·exact .inl ⟨by omega,b1⟩
 rw[if_neg ah]at h
 refine .inr (.inr ⟨by omega,by omega,?_⟩)
 by_cases h1:a.1.thread=b.1.thread
 ·rw[if_neg (by simpa using h1)]at h
  by_cases h2:a.1.az=b.1.az
  ·rw[if_neg (by simpa using h2),a5,b5]at h;simp[cm]at h
  rw[if_pos h2]at h;exact .inr ⟨h1,by simpa using h⟩
 rw[if_pos h1]at h;exact .inl (by simpa using h)
theorem wF{a b:gV}(h:(a.1.thread≠ -1/\b.1.thread= -1)\/(a.1.thread= -1/\b.1.thread= -1/\cm a.1.loc b.1.loc=true)\/(a.1.thread≠ -1/\b.1.thread≠ -1/\(a.1.thread<b.1.thread\/a.1.thread=b.1.thread/\a.1.az<b.1.az))):kS a b:=by
 unfold kS dD;rcases h with⟨h1,h2⟩|⟨h1,h2,h3⟩|⟨h1,h2,h3⟩
 ·rw[if_pos (by simp[h1,h2])];simpa using h2
 ·have ha:=ng a;have hb:=ng b
  rw[if_neg (by simp[h1,h2]),if_neg (by simp[h1,h2]),if_neg (by omega)];exact h3
 rw[if_neg (by simp[h1,h2])]
 rcases h3 with h3|⟨h3,h4⟩
 ·rw[if_pos (by omega)];simpa using h3
 rw[if_neg (by omega),if_pos (by omega)];simpa using h4
theorem yF(a b c:gV)(h:kS a b)(h':kS b c):kS a c:=by
 apply wF;rcases V8 h with⟨h1,h2⟩|⟨h1,h2,h3⟩|⟨h1,h2,h3⟩<;>rcases V8 h' with⟨k1,k2⟩|⟨k1,k2,k3⟩|⟨k1,k2,k3⟩
 all_goals first|exact absurd h2 k1|exact absurd k1 h2|(exact .inl ⟨h1,k2⟩)|(exact .inr (.inl ⟨h1,k2,Cp h3 k3⟩))|(exact .inr (.inr ⟨h1,k2,by omega⟩))
theorem V7(a b:gV)(h:kS a b)(h':kS b a):False:=My a (yF a b a h h')
theorem Co(a b:gV)(h: ¬kS a b)(h': ¬kS b a):a=b:=by
 apply Subtype.ext;apply(On _ _).2;rcases ng a with⟨a1,a2⟩|⟨a1,a2,a3,a4,a5⟩
 ·rcases ng b with⟨b1,b2⟩|⟨b1,b2,b3,b4,b5⟩
  ·refine⟨by omega,by omega,Cq ?_ ?_⟩
   ·rw[ao9];exact fun e=>h (wF (.inr (.inl ⟨a1,b1,e⟩)))
   rw[ao9];exact fun e=>h' (wF (.inr (.inl ⟨b1,a1,e⟩)))
  exact absurd (wF (.inl ⟨by omega,a1⟩)) h'
 rcases ng b with⟨b1,b2⟩|⟨b1,b2,b3,b4,b5⟩
 ·exact absurd (wF (.inl ⟨by omega,b1⟩)) h
 have h1: ¬(a.1.thread<b.1.thread\/a.1.thread=b.1.thread/\a.1.az<b.1.az):=fun e=>h (wF (.inr (.inr ⟨by omega,by omega,e⟩)))
 have h2: ¬(b.1.thread<a.1.thread\/b.1.thread=a.1.thread/\b.1.az<a.1.az):=fun e=>h' (wF (.inr (.inr ⟨by omega,by omega,e⟩)))
 exact⟨by omega,by omega,by rw[a5,b5]⟩
mutual
def lV:Nd->List Th
 | .mk k t v a c l=>(if k=2 then[t]else[])++iU l
def iU:List Nd->List Th
 |[]=>[]
 |x::r=>lV x++iU r
end
theorem ES(x:Nd):lV x=(if x.kind=2 then[x.th]else[])++iU x.kids:=by cases x;rw[lV];rfl
theorem qY:iU []=[]:=by rw[iU]
theorem uf{x:Nd}{r:List Nd}:iU (x::r)=lV x++iU r:=by rw[iU]
theorem QO: ∀(l r:List Nd),iU (l++r)=iU l++iU r
 |[],r=>by rw[qY];rfl
 |x::l,r=>by rw[aod,uf,uf,QO l r,List.append_assoc]
theorem QS{l:List Nd}{k:Nat}{x:Nd}(hk:l[k]? =some x):iU (l.take (k+1))=iU (l.take k)++lV x:=by
 obtain⟨hlt,rfl⟩:=anx.1 hk;rw[anH hlt,QO,uf,qY,aoQ]
def jw(t:Th):List Th->List Th
 |[]=>[t]
 |y::r=>if dD t y then t::y::r else y::jw t r
def oG(t:Th)(l:List Th):List Th:=if t∈l then l else jw t l
mutual
def lX:Nd->List Th->List Th
 | .mk k t v a c l,acc=>if k=2 then oG t acc else fZ l acc
def fZ:List Nd->List Th->List Th
 |[],acc=>acc
 |x::r,acc=>fZ r (lX x acc)
end
theorem Kc(x:Nd)(acc:List Th):lX x acc=if x.kind=2 then oG x.th acc else fZ x.kids acc:=by cases x;rw[lX];rfl
theorem vK{acc:List Th}:fZ [] acc=acc:=by rw[fZ]
theorem Fy{x:Nd}{r:List Nd}{acc:List Th}:fZ (x::r) acc=fZ r (lX x acc):=by rw[fZ]
theorem Tj: ∀(l r:List Nd) (acc:List Th),fZ (l++r) acc=fZ r (fZ l acc)
 |[],r,acc=>by rw[vK];rfl
 |x::l,r,acc=>by rw[aod,Fy,Fy,Tj l r]
theorem adb{l:List Nd}{k:Nat}{x:Nd}(hk:l[k]? =some x)(acc:List Th):fZ (l.take (k+1)) acc=lX x (fZ (l.take k) acc):=by
 obtain⟨hlt,rfl⟩:=anx.1 hk;rw[anH hlt,Tj,Fy,vK]
def mX(x:Nd):List Th:=lX x []
theorem gp.Oo{af:Int}{x:Nd}(h:gp af x)(hk:x.kind=2):dI af x.th=true/\x.kids=[]:=by
 rcases afJ h.may with⟨h1,h2⟩|⟨h1,h2,h3,h4⟩|⟨h1,h2⟩|⟨h1,h2⟩|⟨h1,h2⟩
 ·omega
 ·exact⟨h2,ane h4⟩
 ·omega
 ·omega
 omega
theorem Jq: ∀{x:Nd},gp 2 x-> ∀t∈lV x,dI 2 t=true:=by
 intro x
 induction x using Nd.ind with
 | h x ih=>
   intro h t ht;rw[ES]at ht
   have key: ∀(l:List Nd),(∀y∈l,y∈x.kids)-> ∀t∈iU l,dI 2 t=true:=by
    intro l
    induction l with
    |nil=>intro _ t ht;rw[qY]at ht;simp at ht
    | cons y r ihl=>
      intro hin t ht;rw[uf]at ht;rcases aok.1 ht with h1|h1
      ·exact ih y (hin y (by simp)) (h.jz y (hin y (by simp))) t h1
      exact ihl (fun k hk=>hin k (by simp[hk])) t h1
   rcases aok.1 ht with h1|h1
   ·by_cases hk:x.kind=2
    ·rw[if_pos hk]at h1;simp at h1;subst h1;exact(h.Oo hk).1
    rw[if_neg hk]at h1;simp at h1
   exact key _ (fun y hy=>hy) t h1
theorem Jp: ∀(x:Nd),(lV x).length<=mD x:=by
 intro x
 induction x using Nd.ind with
 | h x ih=>
   rw[ES,A9,aoW]
   have key: ∀(l:List Nd),(∀y∈l,y∈x.kids)->(iU l).length<=iG l:=by
    intro l
    induction l with
    |nil=>intro _;rw[qY];simp
    | cons y r ihl=>
      intro hin;rw[uf,rq,aoW];have:=ih y (hin y (by simp));have:=ihl (fun k hk=>hin k (by simp[hk]));omega
   have:=key _ (fun y hy=>hy)
   split<;>simp<;>omega
def uV(l:List Th)(h: ∀t∈l,dI 2 t=true):List gV:=l.pmap (fun t ht=>⟨t,ht⟩) h
theorem Ds(l:List Th)(h: ∀t∈l,dI 2 t=true):(uV l h).map (·.1)=l:=by
 unfold uV;rw[List.map_pmap];simp
theorem ZF{l:List Th}{h: ∀t∈l,dI 2 t=true}{v:gV}:v∈uV l h<->v.1∈l:=by
 constructor
 ·intro hv
  rw[<-Ds l h];exact List.mem_map_of_mem hv
 intro hv
 rw[<-Ds l h]at hv;obtain⟨u,hu,e⟩:=List.mem_map.1 hv;rw[<-Subtype.ext e];exact hu
def nu(l:List Th):Prop:=l.Pairwise fun a b=>dD a b=true
theorem L0{t:Th}{z:Th}: ∀{l:List Th},z∈jw t l<->z=t\/z∈l
 |[]=>by simp[jw]
 | y::r=>by
   unfold jw;split
   ·simp
   simp only[anE,L0 (l:=r)]
   constructor
   ·rintro(h|h|h)
    ·exact .inr (.inl h)
    ·exact .inl h
    exact .inr (.inr h)
   rintro(h|h|h)
   ·exact .inr (.inl h)
   ·exact .inl h
   exact .inr (.inr h)
theorem XT{t:Th}{z:Th}{l:List Th}:z∈oG t l<->z=t\/z∈l:=by
 unfold oG;split
 ·rename_i h
  constructor
  ·exact .inr
  rintro(rfl|h')
  ·exact h
  exact h'
 exact L0
theorem Vf{t:Th}(ht:dI 2 t=true): ∀{l:List Th},(∀z∈l,dI 2 z=true)->t∉l->nu l->nu (jw t l)
 |[],_,_,_=>by unfold jw nu;simp
 | y::r,hv,hn,h=>by
   obtain⟨a1,b1⟩:=anD.1 h;have hy:=hv y (by simp);unfold jw
   by_cases hb:dD t y=true
   ·rw[if_pos hb]
    unfold nu;rw[anD];refine⟨fun z hz=>?_,h⟩;rcases anE.1 hz with rfl|hz
    ·exact hb
    exact yF ⟨t,ht⟩ ⟨y,hy⟩ ⟨z,hv z (by simp[hz])⟩ hb (a1 z hz)
   rw[if_neg hb]
   unfold nu;rw[anD];refine⟨fun z hz=>?_,Vf ht (fun z hz=>hv z (by simp[hz])) (fun h=>hn (by simp[h])) b1⟩;rcases L0.1 hz with rfl|hz
   ·by_cases h2:dD y z=true
    ·exact h2
    have:=Co ⟨z,ht⟩ ⟨y,hy⟩ hb h2
    simp only[Subtype.mk.injEq]at this;exact absurd (by rw[this];simp) hn
   exact a1 z hz
theorem ahE{t:Th}(ht:dI 2 t=true){l:List Th}(hv: ∀z∈l,dI 2 z=true)(h:nu l):nu (oG t l):=by
 unfold oG;split
 ·exact h
 rename_i hn;exact Vf ht hv hn h
theorem ahD{t:Th}{l:List Th}:(oG t l).length<=l.length+1:=by
 have: ∀l:List Th,(jw t l).length=l.length+1:=by
  intro l
  induction l with
  |nil=>rfl
  |cons y r ih=>unfold jw;split<;>simp[ih]
 unfold oG;split
 ·omega
 rw[this];omega
theorem Tm: ∀{x:Nd},gp 2 x-> ∀{acc:List Th},(∀z∈acc,dI 2 z=true)->nu acc->(∀z∈lX x acc,dI 2 z=true)/\nu (lX x acc)/\(∀z,z∈lX x acc<->z∈lV x\/z∈acc)/\(lX x acc).length<=acc.length+mD x:=by
 intro x
 induction x using Nd.ind with
 | h x ih=>
   intro h acc hv hr;rw[Kc,ES,A9]
   by_cases hk:x.kind=2
   ·obtain⟨h1,h2⟩:=h.Oo hk
    rw[if_pos hk,if_pos hk,h2,qY,vF];refine⟨fun z hz=>?_,ahE h1 hv hr,fun z=>by rw[XT];simp,ahD⟩;rcases XT.1 hz with rfl|hz
    ·exact h1
    exact hv z hz
   rw[if_neg hk,if_neg hk]
   have key: ∀(l:List Nd),(∀y∈l,y∈x.kids)-> ∀{acc:List Th},(∀z∈acc,dI 2 z=true)->nu acc->(∀z∈fZ l acc,dI 2 z=true)/\nu (fZ l acc)/\(∀z,z∈fZ l acc<->z∈iU l\/z∈acc)/\(fZ l acc).length<=acc.length+iG l:=by
    intro l
    induction l with
    |nil=>intro _ acc hv hr;rw[vK,qY,vF];exact⟨hv,hr,fun z=>by simp,by omega⟩
    | cons y r ihl=>
      intro hin acc hv hr;rw[Fy,uf,rq];obtain⟨a1,a2,a3,a4⟩:=ih y (hin y (by simp)) (h.jz y (hin y (by simp))) hv hr;obtain⟨b1,b2,b3,b4⟩:=ihl (fun k hk=>hin k (by simp[hk])) a1 a2;refine⟨b1,b2,fun z=>?_,by omega⟩;rw[b3,a3,aok]
      constructor
      ·rintro(h|h|h)
       ·exact .inl (.inr h)
       ·exact .inl (.inl h)
       exact .inr h
      rintro((h|h)|h)
      ·exact .inr (.inl h)
      ·exact .inl h
      exact .inr (.inr h)
   obtain⟨k1,k2,k3,k4⟩:=key x.kids (fun y hy=>hy) hv hr;exact⟨k1,k2,fun z=>by rw[k3];simp,by omega⟩
theorem Oq{x:Nd}(h:gp 2 x):(∀z∈mX x,dI 2 z=true)/\nu (mX x)/\(∀z,z∈mX x<->z∈lV x)/\(mX x).length<=mD x:=by
 obtain⟨h1,h2,h3,h4⟩:=Tm h (acc:=[]) (by simp) aqJ;unfold mX;exact⟨h1,h2,fun z=>by have:=h3 z;simpa using this,by simpa using h4⟩
theorem akH{x:Nd}(h:gp 2 x)(le:gV->gV->Bool)(hle: ∀a b,le a b= !dD b.1 a.1):
 (cZ ((uV (lV x) (Jq h)).mergeSort le)).map (·.1)=mX x:=by
 obtain⟨h1,h2,h3, -⟩:=Oq h
 have hs:=List.pairwise_mergeSort (le:=le) (fun a b c hab hbc=>by
  rw[hle]at*;simp only[anQ,ao9]at*;intro hca
  by_cases hcb:kS c b
  ·exact hbc hcb
  ·by_cases BD:kS b c
   ·exact hab (yF b c a BD hca)
   have:=Co b c BD hcb;subst this;exact hab hca)
  (fun a b=>by
   rw[hle,hle]
   by_cases h1:dD b.1 a.1=true
   ·have:dD a.1 b.1=false:=by rw[ao9];exact fun h2=>V7 a b h2 h1
    rw[h1,this];rfl
   rw[ao9.2 h1];rfl)
  (uV (lV x) (Jq h))
 have hr:=JK (lt:=kS) yF (hs.imp (fun {a b} hab=>by
  rw[hle]at hab;simp only[anQ,ao9]at hab
  by_cases h1:kS a b
  ·exact .inr h1
  exact .inl (Co a b h1 hab)))
 have hg:(uV (mX x) h1).Pairwise kS:=by
  have:((uV (mX x) h1).map (·.1)).Pairwise fun a b=>dD a b=true:=by rw[Ds];exact h2
  exact(List.pairwise_map (f:=fun v:gV=>v.1) (R:=fun a b=>dD a b=true)).1 this
 have e:=NK My V7 hr hg (fun v=>by
  rw[JJ,List.mem_mergeSort,ZF,ZF,h3])
 rw[e,Ds]
def kY(q:Int)(x:Nd):List Th:=if cV 2 q x=0 then mX x else[]
structure aL where
 thread:Int
 az:Int
 loc:Tx
 aT:Tx
 n:Int
deriving DecidableEq
structure Cd where
 a:Option Addr
 c:Nat
 l:List ay
structure aG where
 af:Int
 name:Tx
 bD:Tx
 ia:Option Addr
 ic:Nat
 init:List aL
 ca:Option Addr
 cc:Nat
 code:List Cd
 q:Int
 node:Nd
def mo(lo:Nat)(b:UInt8):Bool:=decide (lo<=b.toNat)&&(decide (b.toNat<=126)&&decide (b.toNat≠34))
def pL(lo:Nat)(s:Tx):Bool:=s.all (mo lo)
def l8(s:Tx):Bool:=decide (1<=s.length)&&(decide (s.length<=1024)&&pL 33 s)
def rA(s:Tx):Bool:=s.isEmpty||(s.head? != some 32&&s.getLast? != some 32)
def me(s:Tx):Bool:=decide (s.length<=262144)&&(pL 32 s&&rA s)
theorem Oa{lo:Nat}{l:Tx}{k:Nat}{c:UInt8}(h:l[k]? =some c)(hn:mo lo c=false):pL lo l=false:=by
 unfold pL;rw[ao9];intro h2;rw[anF]at h2;rw[h2 c (List.mem_of_getElem? h)]at hn;cases hn
theorem N9{lo:Nat}{l:Tx}(h: ∀(i:Nat) (x:UInt8),l[i]? =some x->mo lo x=true):pL lo l=true:=by
 unfold pL;rw[anF];intro x hx;obtain⟨i,hi⟩:=List.mem_iff_getElem?.1 hx;exact h i x hi
def nI(af:Int)(i:ay):Bool:=if af=1 then iF i else bX i
def nP(af:Int)(l:List ay):Int:=if l.all (nI af)then(if af=2 then(jg l).2.1 else 0)else 91
def kn(af:Int):List Cd->Int
 |[]=>0
 |x::r=>if nP af x.l=0 then kn af r else nP af x.l
def dF(t:aG):Int:=
 if t.code.length<1\/16<t.code.length then 2 else if t.code.any fun x=>decide (256<x.l.length)then 2 else kn t.af t.code
def lF(af:Int)(n:Nat)(x:aL):Bool:=
 if x.thread= -1 then aC x.loc&&(decide (x.az=0)&&(decide (x.aT=[])&&bO x.n))
 else if x.thread<0\/(n:Int)<=x.thread\/x.loc≠[]then false
 else if(if af=2 then x.az<1\/31<x.az else x.az<0\/14<x.az)then false
 else if x.aT≠[]then aC x.aT&&decide (x.n=0)else bO x.n
def gN(x:aL):Th:=⟨x.thread,x.az,x.loc⟩
def iV(t:aG):Int:=
 if 1024<t.init.length then 2 else if t.init.all (lF t.af t.code.length)&&decide ((t.init.map gN).Nodup)then 0 else 130
def lu(t:aG):List Th:=kY t.q t.node
def kg(s:Tx):List Tx->List Tx
 |[]=>[s]
 |y::r=>if cm s y then s::y::r else y::kg s r
def ir(l:List Tx)(s:Tx):List Tx:=if s=[]then l else if s∈l then l else kg s l
def uP(t:aG):List Tx:=(t.init.flatMap fun x=>[x.loc,x.aT])++((t.code.flatMap fun x=>x.l.map (·.loc))++(lu t).map (·.loc))
def jO(t:aG):List Tx:=(uP t).foldl ir []
def cQ(t:aG):Int:=
 if bF t.af=false then 5
 else if l8 t.name=false\/me t.bD=false then 130
 else if dF t≠0 then dF t
 else if iV t≠0 then iV t
 else if cV t.af t.q t.node≠0 then cV t.af t.q t.node
 else if(lu t).any fun x=>decide ((t.code.length:Int)<=x.thread)then 80
 else if 64<(jO t).length then 2 else 0
theorem L4(t y:Tx): ∀l:List Tx,kg t (l++[y])=if l.any (cm t)then kg t l++[y]else if cm t y then l++[t,y]else l++[y,t]
 |[]=>by simp[kg]
 | z::r=>by
   rw[aod,kg,L4 t y r];cases h:cm t z
   ·simp only[List.any_cons,h,Bool.false_or,kg,if_false,Bool.false_eq_true]
    by_cases h2:r.any (cm t)=true
    ·simp[h2]
    by_cases h3:cm t y=true
    ·simp[h2,h3]
    simp[h2,h3]
   simp[h,kg]
def ji(t:Tx)(l:List Tx):List Tx:=if l.any (cm t)then kg t l else l
theorem Vh{t:Tx}: ∀{l:List Tx},¬l.any (cm t)=true->kg t l=l++[t]
 |[],_=>rfl
 | z::r,h=>by
   simp only[List.any_cons,Bool.or_eq_true,not_or]at h;rw[kg,if_neg h.1,Vh h.2];rfl
theorem aem(t:Tx)(l:List Tx):kg t l=if l.any (cm t)then ji t l else ji t l++[t]:=by
 unfold ji
 by_cases h:l.any (cm t)=true
 ·rw[if_pos h,if_pos h]
 rw[if_neg h,if_neg h];exact Vh h
theorem agz{t y:Tx}{l:List Tx}(h:l.any (cm t)=true):ji t (l++[y])=ji t l++[y]:=by
 unfold ji;rw[if_pos (by simp[h]),if_pos h,L4,if_pos h]
theorem agy{t y:Tx}{l:List Tx}(h:l.any (cm t)=false)(h2:cm t y=true):ji t (l++[y])=ji t l++[t]++[y]:=by
 unfold ji;rw[if_pos (by simp[h2]),if_neg (by simp[h]),L4,if_neg (by simp[h]),if_pos h2];simp
theorem agx{t y:Tx}{l:List Tx}(h:l.any (cm t)=false)(h2:cm t y=false):ji t (l++[y])=ji t l++[y]:=by
 unfold ji;rw[if_neg (by simp[h,h2]),if_neg (by simp[h])]
theorem Vg(t:Tx)(l:List Tx):(kg t l).length=l.length+1:=by
 induction l with
 |nil=>simp[kg]
 |cons z r ih=>unfold kg;split<;>simp only[ans]<;>omega
theorem agw(t:Tx)(l:List Tx):(ji t l).length<=l.length+1:=by
 unfold ji;split
 ·rw[Vg];exact Nat.le_refl _
 omega
theorem GG(l:List Tx)(t:Tx):(ir l t).length<=l.length+1:=by
 unfold ir;split
 ·omega
 split
 ·omega
 rw[Vg];exact Nat.le_refl _
def fO(acc:List Tx)(l:List Tx):List Tx:=l.foldl ir acc
theorem Bm(acc l r:List Tx):fO acc (l++r)=fO (fO acc l) r:=List.foldl_append
def oH(l:List aL):List Tx:=l.flatMap fun x=>[x.loc,x.aT]
def mm(l:List Cd):List Tx:=l.flatMap fun x=>x.l.map (·.loc)
theorem tL{α:Type}{l:List α}{k:Nat}{x:α}(h:l[k]? =some x):l.take (k+1)=l.take k++[x]:=by
 obtain⟨hlt,rfl⟩:=anx.1 h;exact anH hlt
theorem aiW{l:List aL}{k:Nat}{x:aL}(h:l[k]? =some x)(acc:List Tx):fO acc (oH (l.take (k+1)))=ir (ir (fO acc (oH (l.take k))) x.loc) x.aT:=by
 rw[tL h];unfold oH;rw[aqt,Bm];rfl
theorem aiU{l:List Cd}{k:Nat}{x:Cd}(h:l[k]? =some x)(acc:List Tx):fO acc (mm (l.take (k+1)))=fO (fO acc (mm (l.take k))) (x.l.map (·.loc)):=by
 rw[tL h];unfold mm;rw[aqt,Bm];simp
theorem Wa{α:Type}(f:α->Tx){l:List α}{k:Nat}{x:α}(h:l[k]? =some x)(acc:List Tx):fO acc ((l.take (k+1)).map f)=ir (fO acc ((l.take k).map f)) (f x):=by
 rw[tL h,List.map_append,Bm];rfl
theorem aga(t:aG):jO t=fO (fO (fO [] (oH t.init)) (mm t.code)) ((lu t).map (·.loc)):=by
 unfold jO uP;rw[show ∀l,List.foldl ir [] l=fO [] l from fun _=>rfl,Bm,Bm];rfl
end Go.Proofs.YtkbbgjloifmmbaaGreatDoor
