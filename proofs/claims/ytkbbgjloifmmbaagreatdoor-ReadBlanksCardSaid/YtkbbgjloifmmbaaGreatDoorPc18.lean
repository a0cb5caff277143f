/- What ReadBlanksP leans on, part 18. -/
import Derived.Test.YtkbbgjloifmmbaaGreatDoorPc15
import Derived.RegionDies
import Derived.Test.YtkbbgjloifmmbaaGreatDoorPc14
set_option linter.unusedVariables false
set_option maxRecDepth 100000
set_option maxHeartbeats 12800000
open _root_.Go.Proofs.Tryz
open _root_.List renaming getElem?_eq_getElem->am9,getElem?_eq_some_iff->anx,drop_eq_nil_of_le->anj,drop_eq_getElem_cons->aoI,beq_nil_eq->apl,eq_nil_of_length_eq_zero->ane,getLast?_eq_getElem?->apn
open _root_.Option renaming some->an7
open _root_.Nat renaming le_refl->anb,lt_succ_iff_lt_or_eq->anv,not_lt_zero->anC,add_zero->ano,eq_zero_or_pos->apo
open _root_.Bool renaming eq_false_or_eq_true->apk
open _root_.Go.Instr renaming index->apm,sliceAt->anh
open _root_.UInt8 renaming toNat_inj->aph
open _root_.Option.some renaming inj->an4
namespace Go.Proofs.YtkbbgjloifmmbaaGreatDoor
open Go.RowKit Go.Sort
variable{af n v:Int}{L:List Tok}{B N b c k rb:Nat}{a:Option Addr}{t:Tok}{s:Tx}{w w' w1:World}
abbrev rdC(af:Int)(s:Tx)(a:Option Addr)(n c:Nat)(k:Int):List Value:=[.int .i64 af,.string (tx s),.slice a n c,.int .i64 k]
structure cU(w:World)(B rb:Nat)(af:Int)(s:Tx)(a:Option Addr)(c:Nat)(L:List Tok)(k:Nat):Prop where
 own:Own w B 185 4 (an7 ⟨rb,0,none⟩) 1 1 (rdC af s a L.length c k)
 toks:bK AZ w a L
 ne:L≠[]->bk a≠rb
 le:k<=L.length
 sm:L.length<=262144
 sl:s.length<=262144
section
variable {w:World} {B rb:Nat} {af:Int} {s:Tx} {a:Option Addr} {c:Nat} {L:List Tok} {k:Nat}
theorem cU.cells(h:cU w B rb af s a c L k):w.cell? ⟨rb,0,none⟩=an7 (.int .i64 af)/\w.cell? ⟨rb,1,none⟩=an7 (.string (tx s))/\w.cell? ⟨rb,2,none⟩=an7 (.slice a L.length c)/\w.cell? ⟨rb,3,none⟩=an7 (.int .i64 k)/\w.frozen? ⟨rb,3,none⟩=false/\rb<w.heap.size:=by
 have f3:=Own.frozen h.own (by simp) 3;have c0:=(Own.row h.own).cell 0 (by simp);have c1:=(Own.row h.own).cell 1 (by simp);have c2:=(Own.row h.own).cell 2 (by simp);have c3:=(Own.row h.own).cell 3 (by simp);have lt:=Own.lt h.own (by simp);simp only[gv,gX,Nat.zero_add]at f3 c0 c1 c2 c3 lt;exact⟨c0,c1,c2,c3,f3,lt.2⟩
theorem cU.below{w':World}(h:cU w B rb af s a c L k)(hb:Below w.heap.size w w'):cU w' B rb af s a c L k:=
 ⟨Own.below h.own hb,h.toks.below hb,h.ne,h.le,h.sm,h.sl⟩
theorem bK.step{α:Type}{enc:α->List Value}{m:Nat}{w w':World}{a:Option Addr}{l:List α}{rb:Nat}(hm: ∀x,(enc x).length=m)(hpos:0<m)(h:bK enc w a l)(hs:Step w w' (an7 ⟨rb,0,none⟩) (an7 ⟨rb,0,none⟩))(hne:l≠[]->bk a≠rb):bK enc w' a l:=by
 refine⟨⟨h.row.head,fun i hi=>?_⟩,h.len⟩;have h1:=h.row.cell i hi;rw[am9 hi]at h1⊢;refine hs.grown.cell h1 ?_;have hl:l≠[]:=by intro e;subst e;simp[flat]at hi
 have:=hne hl;simpa using this
theorem cU.next(h:cU w B rb af s a c L k)(hk:k<L.length):cU (w.setCell ⟨rb,3,none⟩ (.int .i64 ((k:Int)+1))) B rb af s a c L (k+1)/\Step w (w.setCell ⟨rb,3,none⟩ (.int .i64 ((k:Int)+1))) (an7 ⟨rb,0,none⟩) (an7 ⟨rb,0,none⟩):=by
 obtain⟨o,st⟩:=Own.set h.own (by simp) 3 (.int .i64 ((k:Int)+1));simp only[gv,gX,Nat.zero_add]at o st;exact⟨⟨o,bK.step kr (by omega) h.toks st h.ne,h.ne,by omega,h.sm,h.sl⟩,st⟩
end
theorem td(h:L[k]? =some t):au (L.drop k)=t.1:=by
 obtain⟨hlt,rfl⟩:=anx.1 h;rw[aoI hlt];rfl
theorem x9(h:L.length<=k):au (L.drop k)=[]:=by rw[anj h];rfl
theorem akQ(h:L[k]? =some t):dz N (L.drop k)=t.2:=by
 obtain⟨hlt,rfl⟩:=anx.1 h;rw[aoI hlt];rfl
theorem akT(h:L.length<=k):dz N (L.drop k)=N:=by rw[anj h];rfl
theorem akc{a b:Tx}(h:a=b):Ending.returned (.string (tx a))= .returned (.string (tx b)):=by rw[h]
theorem Bd(R:cU w B rb af s a c L k)(d:Nat)(hd:d<=1):
 Calls prog 236 #[.pointer (some ⟨rb,0,none⟩),.int .i64 d] w (Ex w (.string (tx (au (L.drop (k+d)))))):=by
 obtain⟨c0,c1,c2,c3,f3,lt⟩:=R.cells;have hle:=R.le;have hsm:=R.sm
 by_cases hk:k+d<L.length
 ·obtain⟨t,ht⟩: ∃t,L[k+d]? =some t:=⟨_,am9 hk⟩
  obtain⟨d0,d1⟩:=R.toks.tok ht;have ix:=R.toks.idx Hj kr (k+d) hk c;rw[show((k+d:Nat):Int)=(k:Int)+d by omega]at ix;have HF:=hid (td ht);clear ht R;obtain⟨u,hu⟩:=aj (au (L.drop (k+d)));rw[hu]at HF⊢;generalize L.length=n at*;have z:decide ((k:Int)+d<(n:Int))=true:=ah;clear hu;go_in;go_wp2_with fail
  go_big_region
  all_goals go_wp2_with fail
  all_goals go_big_region
  all_goals go_wp2_with fail
  all_goals go_ret
  all_goals exact⟨akc HF.out.symm,mj⟩
 have HF:=hid (x9 (L:=L) (k:=k+d) (by omega))
 clear R;obtain⟨u,hu⟩:=aj (au (L.drop (k+d)));rw[hu]at HF⊢;generalize L.length=n at*;have z:decide ((k:Int)+d<(n:Int))=false:=ah;clear hu;go_in;go_wp2_with fail
 go_big_region
 all_goals go_wp2_with fail
 all_goals go_ret
 all_goals exact⟨by rw[HF.out];rfl,mj⟩
def fG(n:Int):Ending:=.panicked [{ v:=.iface 180 (.agg #[.int .i64 n]),recovered:=false }]
theorem Xe{m:Int}(h:m=n):fG m=fG n:=by rw[h]
theorem Bb(R:cU w B rb af s a c L k):
 Calls prog 239 #[.pointer (some ⟨rb,0,none⟩)] w fun e w'=>e=fG (dz s.length (L.drop k))/\QW w w':=by
 obtain⟨c0,c1,c2,c3,f3,lt⟩:=R.cells;have hle:=R.le;have hsm:=R.sm;have l5:=R.sl
 by_cases hk:k<L.length
 ·obtain⟨t,ht⟩: ∃t,L[k]? =some t:=⟨_,am9 hk⟩
  obtain⟨d0,d1⟩:=R.toks.tok ht;have ix:=R.toks.idx Hj kr k hk c;have HF:=hid (akQ (N:=s.length) ht);clear ht R;obtain⟨u,hu⟩:=aj (dz s.length (L.drop k));rw[hu]at HF⊢;generalize L.length=n at*;have z:decide ((k:Int)<(n:Int))=true:=ah;clear hu;go_in;go_wp2_with fail
  go_big_region
  all_goals go_wp2_with fail
  all_goals go_region_dies
  all_goals(try go_wp2_with fail)
  all_goals exact⟨rfl,Xe (by rw[HF.out]),mj⟩
 have HF:=hid (akT (N:=s.length) (L:=L) (k:=k) (by omega))
 clear R;obtain⟨u,hu⟩:=aj (dz s.length (L.drop k));rw[hu]at HF⊢;generalize L.length=n at*;have hsz:(tx s).size=s.length:=aM s;have z:decide ((k:Int)<(n:Int))=false:=ah;clear hu;go_in;go_wp2_with fail
 go_big_region
 all_goals go_wp2_with fail
 all_goals exact⟨rfl,Xe (by rw[HF.out]),mj⟩
abbrev St(w w':World)(rb:Nat):Prop:=Step w w' (an7 ⟨rb,0,none⟩) (an7 ⟨rb,0,none⟩)
theorem St.refl(w:World)(rb:Nat):St w w rb:=aX (Below.refl _ _)
theorem QW.bt(h:QW w w'):Below w.heap.size w w':=by obtain⟨n,rfl⟩:=h;exact below_drewN _ _
def gu{α:Type}(w:World)(B rb:Nat)(af:Int)(s:Tx)(a:Option Addr)(c:Nat)(L:List Tok)(p:PR α)(V:α->Ending->World->Prop)(e:Ending)(w':World):Prop:=
 St w w' rb/\((∃l,p= .error l/\e=fG (dz s.length l))\/(∃x k,p= .ok (x,L.drop k)/\V x e w'/\cU w' B rb af s a c L k))
section
variable {α:Type} {w w':World} {B rb:Nat} {af:Int} {s:Tx} {a:Option Addr} {c:Nat} {L:List Tok} {p:PR α} {V:α->Ending->World->Prop} {e:Ending}
theorem gu.cX(h:gu w B rb af s a c L p V e w'){x:α}{r:List Tok}(hp:p= .ok (x,r)): ∃k,r=L.drop k/\V x e w'/\cU w' B rb af s a c L k/\St w w' rb:=by
 obtain⟨h1,⟨l,h2,h3⟩|⟨y,k,h2,h3,h4⟩⟩:=h
 ·rw[hp]at h2;cases h2
 rw[hp]at h2;cases h2;exact⟨k,rfl,h3,h4,h1⟩
theorem gu.err(h:gu w B rb af s a c L p V e w'){l:List Tok}(hp:p= .error l):e=fG (dz s.length l)/\St w w' rb:=by
 obtain⟨h1,⟨l,h2,h3⟩|⟨y,k,h2,h3,h4⟩⟩:=h
 ·rw[hp]at h2;cases h2;exact⟨h3,h1⟩
 rw[hp]at h2;cases h2
end
def zJ(p:Except (List Tok) (List Tok)):PR Unit:=match p with
 | .ok r=>.ok ((),r)
 | .error e=>.error e
def VU(x:Unit)(e:Ending)(w:World):Prop:=e= .returned (.tuple #[])
theorem drop_at(h:L[k]? =some t):L.drop k=t::L.drop (k+1):=by
 obtain⟨hlt,rfl⟩:=anx.1 h;exact aoI hlt
theorem vG(R:cU w B rb af s a c L k)(u:Tx)(hu:u≠[]):
 Calls prog 237 #[.pointer (some ⟨rb,0,none⟩),.string (tx u)] w (gu w B rb af s a c L (zJ (bg u (L.drop k))) VU):=by
 have PK:=hid (Bd R 0 (by omega));rw[ano,show((0:Nat):Int)=0 by rfl]at PK;have FL:=hid (fun(w:World) (R:cU w B rb af s a c L k)=>Bb R);have HR:=hid R
 by_cases hh: ∃t,L[k]? =some t/\t.1=u
 ·obtain⟨t,ht,rfl⟩:=hh
  have hp:zJ (bg t.1 (L.drop k))= .ok ((),L.drop (k+1)):=by rw[drop_at ht,tK,if_pos rfl];rfl
  have hlt:=(anx.1 ht).1;rw[hp];rw[td ht]at PK;have z:((tx t.1).toList==(tx t.1).toList)=true:=by simp
  have HL:=hid hlt;clear hp ht hlt hu R;generalize t.1=u at*;go_in;go_wp2_with fail;refine PK.out.mono ?_;rintro e w1 ⟨rfl,q⟩;have R1:=HR.out.below q.bt;obtain⟨c0,c1,c2,c3,f3,lt⟩:=R1.cells;obtain⟨R2,S2⟩:=R1.next HL.out;have S:=(aX (bw:=rb) q.bt).trans S2;have HS:=hid S;have H2:=hid R2;have hb:k<=262144:=by have:=R1.le;have:=R1.sm;omega
  clear R1 R2 S S2 q;go_wp2
  go_end0
  exact⟨HS.out,.inr ⟨(),k+1,rfl,rfl,H2.out⟩⟩
 have hne:au (L.drop k)≠u:=by
  intro e
  by_cases hk:k<L.length
  ·exact hh ⟨_,am9 hk,by rw[<-e,td (am9 hk)]⟩
  rw[x9 (by omega)]at e;exact hu e.symm
 have hp:zJ (bg u (L.drop k))= .error (L.drop k):=by
  by_cases hk:k<L.length
  ·have ht:=am9 hk
   rw[drop_at ht,tK,if_neg (fun e=>hh ⟨_,ht,e⟩)];rfl
  rw[anj (by omega)];rfl
 rw[hp];have z:((tx (au (L.drop k))).toList==(tx u).toList)=false:=mY hne;generalize au (L.drop k)=v at*;clear hp hne hu R hh;go_in;go_wp2_with fail;refine PK.out.mono ?_;rintro e w1 ⟨rfl,q⟩;have R1:=HR.out.below q.bt;have FL:=hid (FL.out _ R1);have Q:=hid q;clear R1 q;go_wp2_with fail;refine FL.out.mono ?_;rintro e w2 ⟨rfl,q2⟩;unfold fG;go_wp2;exact⟨rfl,(aX (bw:=rb) Q.out.bt).trans (aX q2.bt),.inl ⟨_,rfl,rfl⟩⟩
def VI(x:Int)(e:Ending)(w:World):Prop:=e= .returned (.int .i64 x)
def VS(x:Tx)(e:Ending)(w:World):Prop:=e= .returned (.string (tx x))/\x.length<=262144
theorem aeo{a b:Int}(h:aU (au (L.drop k))=some n)(h1:a<=n)(h2:n<=b):k<L.length/\jM a b (L.drop k)= .ok (n,L.drop (k+1)):=by
 by_cases hk:k<L.length
 ·have ht:=am9 hk
  rw[td ht]at h;refine⟨hk,?_⟩;rw[drop_at ht,pG,h];exact if_pos ⟨h1,h2⟩
 rw[x9 (by omega)]at h
 rw[show aU []=none by decide+kernel]at h;cases h
theorem aep{a b:Int}(h: ∀n,aU (au (L.drop k))=some n-> ¬(a<=n/\n<=b)):jM a b (L.drop k)= .error (L.drop k):=by
 by_cases hk:k<L.length
 ·have ht:=am9 hk
  rw[td ht]at h;rw[drop_at ht,pG];cases hn:aU (L[k]).1 with
  |none=>rfl
  |some n=>exact if_neg (h n hn)
 rw[anj (by omega)];rfl
theorem Uk(hL: ∀t∈L,t.1.length<=s.length)(k:Nat):(au (L.drop k)).length<=s.length:=by
 by_cases hk:k<L.length
 ·have ht:=am9 hk
  rw[td ht];exact hL _ (List.getElem_mem hk)
 rw[x9 (by omega)];simp
theorem RV(R:cU w B rb af s a c L k)(hsh: ∀t∈L,t.1.length<=s.length)(lo hi:Int)(h1: -2147483648<=lo)(h2:hi<=2147483647)(g:Gl w):
 Calls prog 351 #[.pointer (some ⟨rb,0,none⟩),.int .i64 lo,.int .i64 hi] w (gu w B rb af s a c L (jM lo hi (L.drop k)) VI):=by
 have PK:=hid (fun(w:World) (R:cU w B rb af s a c L k)=>Bd R 0 (by omega));have FL:=hid (fun(w:World) (R:cU w B rb af s a c L k)=>Bb R);have HR:=hid R;have dN:=Uk hsh k;have l5:=R.sl;have IH:=hid (fun n=>aeo (a:=lo) (b:=hi) (L:=L) (k:=k) (n:=n));have IM:=hid (aep (a:=lo) (b:=hi) (L:=L) (k:=k));rw[ano,show((0:Nat):Int)=0 by rfl]at PK;generalize jM lo hi (L.drop k)=p at*;generalize au (L.drop k)=u at*;clear hsh R
 by_cases hv: ∃v,Lib.atoiAll u= .ok v
 ·obtain⟨v,hv⟩:=hv
  obtain⟨b1,b2⟩:=Lib.atoiAll_bounds hv;have AT:=hid (ER u (by omega) v hv);have IT:=hid (fun(w:World) (g:Gl w)=>yq v b1 b2 w g);have hn:=MN hv;obtain⟨x,hx⟩:=aj (Lib.itoa v);rw[hx]at hn IT
  by_cases hok:x=u/\lo<=v/\v<=hi
  ·obtain⟨rfl,l1,l2⟩:=hok
   rw[if_pos ⟨rfl,Gy.2 ⟨by omega,by omega⟩⟩]at hn;obtain⟨hk,hp⟩:=IH.out v hn l1 l2;subst hp;have z:((tx x).toList==(tx x).toList)=true:=by simp
   have z1:decide (v<lo)=false:=ah;have z2:decide (hi<v)=false:=ah;have HK:=hid hk;clear hn hv b1 b2 hx l1 l2 hk IH IM dN l5 h1 h2;go_in;go_wp2_with fail;refine(PK.out _ HR.out).mono ?_;rintro e w1 ⟨rfl,q⟩;have E:=q.bt;clear q;go_wp2_with fail;refine(AT.out _).mono ?_;rintro e w2 ⟨rfl,E2⟩;have E:=E.trans (E2.mono E.size);have g2:=g.below E;go_wp2_with fail;refine(IT.out _ g2).mono ?_;rintro e w3 ⟨rfl,E3⟩;have E:=E.trans (E3.mono E.size);go_wp2_with fail;refine(PK.out _ (HR.out.below E)).mono ?_;rintro e w4 ⟨rfl,q⟩;have E:=E.trans (q.bt.mono E.size);have R1:=HR.out.below E;obtain⟨c0,c1,c2,c3,f3,lt⟩:=R1.cells;obtain⟨R2,S2⟩:=R1.next HK.out;have HS:=hid ((aX (bw:=rb) E).trans S2);have H2:=hid R2;have hb:k<=262144:=by have:=R1.le;have:=R1.sm;omega
   clear R1 R2 S2 q E E2 E3 g2;go_wp2;go_ret;exact⟨HS.out,.inr ⟨v,k+1,rfl,rfl,H2.out⟩⟩
  have hp:=IM.out (fun n hn' hb=>by
   rw[hn]at hn'
   split at hn'
   ·rename_i hh;cases hn';exact hok ⟨hh.1,hb⟩
   cases hn')
  subst hp
  have hc:((tx x).toList==(tx u).toList)=false\/(((tx x).toList==(tx u).toList)=true/\decide (v<lo)=true)\/(((tx x).toList==(tx u).toList)=true/\decide (v<lo)=false/\decide (hi<v)=true):=by
   by_cases e:x=u
   ·right
    have z:((tx x).toList==(tx u).toList)=true:=by rw[iQ];simpa using e
    by_cases l1:lo<=v
    ·right
     refine⟨z,ah,?_⟩;simp only[decide_eq_true_eq];rcases Int.lt_or_le hi v with h|h
     ·exact h
     exact absurd ⟨e,l1,h⟩ hok
    left;exact⟨z,ah⟩
   exact .inl (mY e)
  clear hn hv b1 b2 hx IH IM dN l5 h1 h2 hok;rcases hc with z|⟨z,z1⟩|⟨z,z1,z2⟩
  all_goals
   go_in;go_wp2_with fail;refine(PK.out _ HR.out).mono ?_;rintro e w1 ⟨rfl,q⟩;have E:=q.bt;clear q;go_wp2_with fail;refine(AT.out _).mono ?_;rintro e w2 ⟨rfl,E2⟩;have E:=E.trans (E2.mono E.size);have g2:=g.below E;go_wp2_with fail;refine(IT.out _ g2).mono ?_;rintro e w3 ⟨rfl,E3⟩;have E:=E.trans (E3.mono E.size);go_wp2_with fail;refine(PK.out _ (HR.out.below E)).mono ?_;rintro e w4 ⟨rfl,q⟩;have E:=E.trans (q.bt.mono E.size);have FL:=hid (FL.out _ (HR.out.below E));have HE:=hid E;clear q E E2 E3 g2;go_wp2_with fail;refine FL.out.mono ?_;rintro e w5 ⟨rfl,q⟩;unfold fG;go_wp2;exact⟨rfl,(aX (bw:=rb) HE.out).trans (aX q.bt),.inl ⟨_,rfl,rfl⟩⟩
 have hv: ∀v,Lib.atoiAll u≠ .ok v:=fun v h=>hv ⟨v,h⟩
 have AT:=hid (EO u (by omega) hv);have hp:=IM.out (fun n hn'=>by rw[WC hv]at hn';cases hn');subst hp;clear hv IH IM dN l5 h1 h2;go_in;go_wp2_with fail;refine(PK.out _ HR.out).mono ?_;rintro e w1 ⟨rfl,q⟩;have E:=q.bt;have g1:=g.below E;clear q;go_wp2_with fail;refine(AT.out _ g1).mono ?_;rintro e w2 ⟨n,tp,pp,rfl,E2⟩;have E:=E.trans (E2.mono E.size);have FL:=hid (FL.out _ (HR.out.below E));have HE:=hid E;clear E E2 g1;go_wp2_with fail;refine FL.out.mono ?_;rintro e w5 ⟨rfl,q⟩;unfold fG;go_wp2;exact⟨rfl,(aX (bw:=rb) HE.out).trans (aX q.bt),.inl ⟨_,rfl,rfl⟩⟩
theorem afs(h:aC (au (L.drop k))=true):k<L.length/\iL (L.drop k)= .ok (au (L.drop k),L.drop (k+1)):=by
 by_cases hk:k<L.length
 ·have ht:=am9 hk
  rw[td ht]at h⊢;exact⟨hk,by rw[drop_at ht,rN,if_pos h]⟩
 rw[x9 (by omega)]at h;cases h
theorem aft(h:aC (au (L.drop k))=false):iL (L.drop k)= .error (L.drop k):=by
 by_cases hk:k<L.length
 ·have ht:=am9 hk
  rw[td ht]at h;rw[drop_at ht,rN,if_neg (by rw[h];decide)]
 rw[anj (by omega)];rfl
theorem RX(R:cU w B rb af s a c L k)(hsh: ∀t∈L,t.1.length<=s.length):
 Calls prog 356 #[.pointer (some ⟨rb,0,none⟩)] w (gu w B rb af s a c L (iL (L.drop k)) VS):=by
 have PK:=hid (fun(w:World) (R:cU w B rb af s a c L k)=>Bd R 0 (by omega));have FL:=hid (fun(w:World) (R:cU w B rb af s a c L k)=>Bb R);have HR:=hid R;have dN:=Uk hsh k;have l5:=R.sl;rw[ano,show((0:Nat):Int)=0 by rfl]at PK;have NM:=hid (fun w=>Sa (au (L.drop k)) (by omega) w);cases hb:aC (au (L.drop k))with
 | true=>
   rw[hb]at NM;obtain⟨hk,hp⟩:=afs hb;rw[hp];obtain⟨t,ht⟩: ∃t,L[k]? =some t:=⟨_,am9 hk⟩;rw[td ht]at*;have HT:=hid ht;have HK:=hid hk;have HU:=hid (show t.1.length<=262144 by omega);clear hb hp hk ht dN l5 hsh R;go_in;go_wp2_with fail;refine(PK.out _ HR.out).mono ?_;rintro e w1 ⟨rfl,q⟩;have E:=q.bt;have R1:=HR.out.below E;obtain⟨c0,c1,c2,c3,f3,lt⟩:=R1.cells;obtain⟨R2,S2⟩:=R1.next HK.out;have HS:=hid ((aX (bw:=rb) E).trans S2);have hb:k<=262144:=by have:=R1.le;have:=R1.sm;omega
   have H2:=hid R2;clear R1 R2 S2 q E
   go_upto_region 4 with(first|(go_at_call 322;refine av (NM.out _) ?_)|fail)
   generalize w1.setCell ⟨rb,3,none⟩ (.int .i64 ((k:Int)+1))=w2 at*;clear c0 c1 c2 c3 f3 lt;obtain⟨c0,c1,c2,c3,f3,lt⟩:=H2.out.cells;obtain⟨d0,d1⟩:=H2.out.toks.tok HT.out;have ix:=H2.out.toks.idx Hj kr k HK.out c;rw[show((k+1:Nat):Int)=(k:Int)+1 by omega]at c3;have Gi:=ix;rw[show(k:Int)=(k:Int)+1-1 by omega]at Gi
   go_big_region
   all_goals go_wp2_with fail
   all_goals go_ret
   all_goals exact⟨HS.out.trans (aX bC),.inr ⟨t.1,k+1,rfl,⟨rfl,HU.out⟩,H2.out.below bC⟩⟩
 | false=>
   rw[hb]at NM;rw[aft hb];generalize au (L.drop k)=u at*;clear hb dN l5 hsh R;go_in;go_wp2_with fail;refine(PK.out _ HR.out).mono ?_;rintro e w1 ⟨rfl,q⟩;have FL:=hid (FL.out _ (HR.out.below q.bt));have Q:=hid q;clear q
   go_wp2_with (go_at_call 322;refine av (NM.out _) ?_)
   refine FL.out.mono ?_;rintro e w5 ⟨rfl,q⟩;unfold fG;go_wp2_with fail;exact⟨rfl,(aX (bw:=rb) Q.out.bt).trans (aX q.bt),.inl ⟨_,rfl,rfl⟩⟩
def Cy(o:Option Nat):Int:=match o with
 |some n=>n
 |none=> -1
theorem Ys{n:Nat}(h:(n:Int)<dO af)(hm: ∀m,m<n->ek af m≠s)(e:ek af n=s):dh af s=some n:=by
 unfold dh;have hl:n<(dO af).toNat:=by omega
 rw[List.find?_range_eq_some];exact⟨by simpa using e,List.mem_range.2 hl,fun j hj=>by simpa using hm j hj⟩
theorem Yu{n:Nat}(hn:(n:Int)=dO af)(hm: ∀m,m<n->ek af m≠s):dh af s=none:=by
 unfold dh;rw[List.find?_eq_none];intro m BK;have:=List.mem_range.1 BK;simpa using hm m (by omega)
theorem ab7(af:Int)(s:Tx)(w:World):Calls prog 357 #[.int .i64 af,.string (tx s)] w (aJ w (.int .i64 (Cy (dh af s)))):=by
 obtain⟨N,hN⟩: ∃N:Nat,dO af=N:=⟨(dO af).toNat,by have:=Dg af;omega⟩;have hb:=Dg af;have CR:=hid (ab9 af);have RG:=hid (fun(k:Nat) (hk:(k:Int)<dO af) (w:World)=>ab8 af k hk w);have HH:=hid (fun(n:Nat) (h:n<N)=>Ys (af:=af) (s:=s) (n:=n) (by omega));have HM:=hid (fun(hm: ∀m,m<N->ek af m≠s)=>Yu (af:=af) (s:=s) (n:=N) hN.symm hm);have HB:=hid (show ∀k:Nat,k<N->(k:Int)<dO af from fun k hk=>by omega);rw[hN]at CR;generalize dh af s=o at*;have hNb:N<=32:=by omega
 clear hN hb;go_in
 go_wp2_with (go_at_call 323;refine av (CR.out _) ?_)
 go_loopw [8] (fun i wr=> ∃k:Nat,k<=N/\i= .int .i64 k/\Below w.heap.size w wr/\Hid (∀m,m<k->ek af m≠s)) (fun i _=>N-(intOf i).toNat)
 ·exact⟨0,by omega,rfl,bC,fun m hm=>absurd hm (anC m)⟩
 obtain⟨k,hk,rfl,E,HK⟩:=hrel
 by_cases hlt:k<N
 ·have RC:=hid (RG.out k (HB.out k hlt))
  by_cases he:ek af k=s
  ·have hz:((tx (ek af k)).toList==(tx s).toList)=true:=by rw[iQ];simpa using he
   have HO:=hid (HH.out k hlt HK.out he);clear he;generalize ek af k=u at*;go_wp2_with fail;refine(RC.out _).mono ?_;rintro e w1 ⟨rfl,E1⟩;have E:=E.trans (E1.mono E.size);go_wp2;go_ret;exact⟨bQ (by rw[HO.out];rfl),E⟩
  have hz:((tx (ek af k)).toList==(tx s).toList)=false:=mY he
  have cE:=hid (show ∀m,m<k+1->ek af m≠s from fun m hm=>by
   rcases anv.1 hm with h|h
   ·exact HK.out m h
   subst h;exact he)
  clear he;generalize ek af k=u at*;go_wp2_with fail;refine(RC.out _).mono ?_;rintro e w1 ⟨rfl,E1⟩;have E:=E.trans (E1.mono E.size);go_wp2
  go_roundw;exact⟨k+1,by omega,by go_num,E,cE⟩;simp[intOf];omega
 obtain rfl:k=N:=by omega
 have HO:=hid (HM.out HK.out);go_wp2;go_ret;exact⟨bQ (by rw[HO.out];rfl),E⟩
def VT(t:Th)(e:Ending)(w:World):Prop:=e= .returned (ko t)/\t.loc.length<=262144
theorem cU.put(h:cU w B rb af s a c L k)(hb:b≠rb)(ha:L≠[]->bk a≠b)(j:Nat)(v:Value):cU (w.setCell ⟨b,j,none⟩ v) B rb af s a c L k:=by
 have hs:Step w (w.setCell ⟨b,j,none⟩ v) (an7 ⟨b,0,none⟩) (an7 ⟨b,0,none⟩):=⟨⟨rfl,rfl,rfl,by simp,fun k hk hne=>Below.heap_setCell _ _ _ _ (fun e=>hne (by simp[e]))⟩,.inl rfl⟩;refine⟨Own.kept h.own hs.grown (.inr ?_),bK.step kr (by omega) h.toks hs ha,h.ne,h.le,h.sm,h.sl⟩;simp;exact fun e=>hb e.symm
theorem St.put(h:St w w1 rb)(hb:w.heap.size<=b)(j:Nat)(v:Value):St w (w1.setCell ⟨b,j,none⟩ v) rb:=
 ⟨⟨h.grown.os,h.grown.tape,h.grown.output,by simpa using h.grown.size,fun k hk hne=>by rw[Below.heap_setCell _ _ _ _ ah];exact h.grown.block k hk hne⟩,.inl rfl⟩
theorem St.new(h:St w w1 rb)(o:Obj):St w (w1.alloc o) rb:=h.trans (aX (al _ _))
abbrev iz:Obj:=.cells #[.int .i64 0,.int .i64 0,.string ⟨#[]⟩] 25
theorem gj{us:Array Value}{T:TypeId}(hs:St (w.alloc (.cells us T)) w1 rb)(hrb:rb<w.heap.size):aA w1 w.heap.size us.toList:=(aA.new w us T).step hs (by omega)
theorem eW(hs:St w w1 rb)(hb:b<w.heap.size)(hne:b≠rb)(k:Nat):w1.frozen? ⟨b,k,none⟩=w.frozen? ⟨b,k,none⟩:=by
 unfold World.frozen?;rw[hs.grown.block b hb (by simpa using hne)]
theorem aV(w:World)(us:Array Value)(T:TypeId)(k:Nat):(w.alloc (.cells us T)).frozen? ⟨w.heap.size,k,none⟩=false:=by
 have hh:=heap_alloc_new w (.cells us T);unfold World.frozen?;simp only[hh];simp
theorem alg(h:au (L.drop k)=[91]):eY af (L.drop k)=match iL (L.drop (k+1))with
 | .error e=>.error e
 | .ok (x,r)=>match bg [93] r with
   | .error e=>.error e
   | .ok r=>.ok (⟨-1,0,x⟩,r):=by
 unfold eY;rw[if_pos h,List.tail_drop];rfl
theorem alh(h:au (L.drop k)≠[91])(h2:qz (au (L.drop k))=true):eY af (L.drop k)=match jM 0 15 (L.drop k)with
 | .error e=>.error e
 | .ok (n,r)=>match bg [58] r with
   | .error e=>.error e
   | .ok r=>match dh af (au r)with
     |none=>.error r
     |some k=>.ok (⟨n,k,[]⟩,r.tail):=by
 unfold eY;rw[if_neg h,if_pos h2];rfl
theorem ali(h:au (L.drop k)≠[91])(h2:qz (au (L.drop k))=false):eY af (L.drop k)=match iL (L.drop k)with
 | .error e=>.error e
 | .ok (x,r)=>.ok (⟨-1,0,x⟩,r):=by
 unfold eY;rw[if_neg h,if_neg (by rw[h2];decide)];rfl
theorem uz(h:au (L.drop k)≠[]):k<L.length:=by
 rcases Nat.lt_or_ge k L.length with h'|h'
 ·exact h'
 exact absurd (x9 h') h
def pX(rb:Nat)(w:World)(u:Tx):Prop:=Calls prog 236 #[.pointer (some ⟨rb,0,none⟩),.int .i64 0] w (Ex w (.string (tx u)))
theorem rS(R:cU w B rb af s a c L k):pX rb w (au (L.drop k)):=by
 have:=Bd R 0 (by omega);rw[ano]at this;exact this
theorem acg(R:cU w B rb af s a c L k)(hsh: ∀t∈L,t.1.length<=s.length)(gB:au (L.drop k)=[91]):
 Calls prog 350 #[.pointer (some ⟨rb,0,none⟩)] w (gu w B rb af s a c L (eY af (L.drop k)) VT):=by
 obtain⟨-, -, -, -, -, hrb⟩:=R.cells;have hk:=uz (L:=L) (k:=k) (by rw[gB];decide);have htk:L≠[]->bk a<w.heap.size:=fun h=>R.toks.lt kr (by omega) h
 have R0:=R.below (al w iz);have PK:=hid (rS R0);rw[gB]at PK;unfold pX at PK;have LC:=hid (fun(w:World) (R:cU w B rb af s a c L (k+1))=>RX R hsh);have TK:=hid (fun(w:World) (k':Nat) (R:cU w B rb af s a c L k')=>vG R [93] (by decide));rw[alg gB];have HK:=hid hk;have HR:=hid R0;have z:((tx [91]).toList==[91])=true:=by rw[bh];rfl
 have hb:k<=262144:=by have:=R.le;have:=R.sm;omega
 clear hsh gB R R0 hk;cases hloc:iL (L.drop (k+1))with
 | error l=>
   rw[hloc]at LC;go_in;go_wp2_with fail;refine PK.out.mono ?_;rintro e w1 ⟨rfl,q⟩;have R1:=HR.out.below q.bt;obtain⟨c0,c1,c2,c3,f3,lt⟩:=R1.cells;obtain⟨R2,S2⟩:=R1.next HK.out;have S:=hid ((St.new (St.refl w rb) iz).trans ((aX (bw:=rb) q.bt).trans S2));have LC:=hid (LC.out _ R2);clear R1 R2 S2 q;go_wp2_with fail;refine LC.out.mono ?_;rintro e w2 h;obtain⟨rfl,S3⟩:=h.err rfl;unfold fG;go_wp2;exact⟨rfl,S.out.trans S3,.inl ⟨_,rfl,rfl⟩⟩
 | ok p=>
   obtain⟨x,r⟩:=p;rw[hloc]at LC;simp only;cases F9:bg [93] r with
   | error l=>
     go_in;go_wp2_with fail;refine PK.out.mono ?_;rintro e w1 ⟨rfl,q⟩;have R1:=HR.out.below q.bt;obtain⟨c0,c1,c2,c3,f3,lt⟩:=R1.cells;obtain⟨R2,S2⟩:=R1.next HK.out;have S:=hid ((St.new (St.refl w rb) iz).trans ((aX (bw:=rb) q.bt).trans S2));have LC:=hid (LC.out _ R2);clear R1 R2 S2 q;go_wp2_with fail;refine LC.out.mono ?_;rintro e w2 h;obtain⟨k2,rfl,⟨rfl,hx⟩,R3,S3⟩:=h.cX rfl;have TC:=hid (TK.out _ k2 (R3.below (al _ (.cells #[.int .i64 (-1),.int .i64 0,.string (tx x)] 25))));have S:=hid (St.new (S.out.trans S3) (.cells #[.int .i64 (-1),.int .i64 0,.string (tx x)] 25));have HT:=hid F9;clear hx R3 S3 h F9;go_wp2_with fail;refine TC.out.mono ?_;rintro e w3 h;obtain⟨rfl,S4⟩:=h.err (show _=Except.error l by rw[HT.out];rfl);unfold fG;go_wp2;exact⟨rfl,S.out.trans S4,.inl ⟨_,rfl,rfl⟩⟩
   | ok r2=>
     go_in;go_wp2_with fail;refine PK.out.mono ?_;rintro e w1 ⟨rfl,q⟩;have R1:=HR.out.below q.bt;obtain⟨c0,c1,c2,c3,f3,lt⟩:=R1.cells;obtain⟨R2,S2⟩:=R1.next HK.out;have S:=hid ((aX (bw:=rb) q.bt).trans S2);have LC:=hid (LC.out _ R2);clear R1 R2 S2 q;go_wp2_with fail;refine LC.out.mono ?_;rintro e w2 h;obtain⟨k2,rfl,⟨rfl,hx⟩,R3,S3⟩:=h.cX rfl;have TC:=hid (TK.out _ k2 (R3.below (al _ (.cells #[.int .i64 (-1),.int .i64 0,.string (tx x)] 25))));have S:=hid (St.new (S.out.trans S3) (.cells #[.int .i64 (-1),.int .i64 0,.string (tx x)] 25));have HT:=hid F9;have HX:=hid hx;have vZ:rb<w2.heap.size:=R3.cells.2.2.2.2.2;have hs2:=S.out.grown.size;clear hx R3 S3 h F9;go_wp2_with fail;refine TC.out.mono ?_;rintro e w3 h;obtain⟨k3,rfl,hv,R5,S4⟩:=h.cX (show _=Except.ok ((),r2) by rw[HT.out];rfl);unfold VU at hv;subst hv;have b4:=gj S4 vZ;have b2:=gj (S.out.trans S4) hrb;have fz:=fun k=>(eW (S.out.trans S4) (b:=w.heap.size) (by simp) (by omega) k).trans (aV w _ _ k)
     obtain⟨q0,q1,q2⟩:=b4.oa;obtain⟨p0,p1,p2⟩:=b2.oa;have HS:=hid ((St.new (St.refl w rb) iz).trans (S.out.trans S4));have Ak:=hid R5;have hne:w.heap.size≠rb:=by omega
     have jW:=hid (show L≠[]->bk a≠w.heap.size from fun h=>by have:=htk h;omega);clear S4 R5 h b4 b2 hs2 htk;go_wp2;exact bodyPost_ret (by simp[results,results350,go_sem,p0,p1,p2]) rfl ⟨St.put (St.put (St.put HS.out (anb _) _ _) (anb _) _ _) (anb _) _ _,.inr ⟨⟨-1,0,x⟩,k3,rfl,⟨rfl,HX.out⟩,((Ak.out.put hne jW.out _ _).put hne jW.out _ _).put hne jW.out _ _⟩⟩
theorem aci(R:cU w B rb af s a c L k)(hsh: ∀t∈L,t.1.length<=s.length)(gB:au (L.drop k)≠[91])(hn:qz (au (L.drop k))=false):
 Calls prog 350 #[.pointer (some ⟨rb,0,none⟩)] w (gu w B rb af s a c L (eY af (L.drop k)) VT):=by
 obtain⟨-, -, -, -, -, hrb⟩:=R.cells;have htk:L≠[]->bk a<w.heap.size:=fun h=>R.toks.lt kr (by omega) h
 have R0:=R.below (al w iz);have PK:=hid (rS R0);unfold pX at PK;have LC:=hid (fun(w:World) (R:cU w B rb af s a c L k)=>RX R hsh);rw[ali gB hn];have HR:=hid R0;generalize au (L.drop k)=u at*;have z:((tx u).toList==[91])=false:=cY _ _ gB;clear hsh gB R R0
 have hc:((tx u).toList==[])=true\/ ∃d,(((tx u).toList==[])=false/\(∀w,(apm 9 (.string (tx u)) (.int .i64 0)).run prog w= .ok (.int .u8 d.toNat) w)/\aD d=false/\((d.toNat:Int)==45)=false):=by
  cases u with
  |nil=>left;rw[bh];rfl
  | cons d r=>
    right
    unfold qz at hn;rw[Bool.or_eq_false_iff]at hn;exact⟨d,cY _ _ (by simp),kJ (d::r) d rfl,hn.1,by simpa using mZ d 45 (by simpa using hn.2)⟩
 clear hn;cases hloc:iL (L.drop k)with
 | error l=>
   rw[hloc]at LC;simp only;rcases hc with z2|⟨d,z2,ix,hd,z3⟩
   ·have H9:(tx u).toList.isEmpty=true:=by rw[<-apl];exact z2
    go_in;go_wp2_with fail;refine PK.out.mono ?_;rintro e w1 ⟨rfl,q⟩;have LC:=hid (LC.out _ (HR.out.below q.bt));have S:=hid ((St.new (St.refl w rb) iz).trans (aX (bw:=rb) q.bt));clear q;go_wp2_with fail;refine LC.out.mono ?_;rintro e w2 h;obtain⟨rfl,S3⟩:=h.err rfl;unfold fG;go_wp2;exact⟨rfl,S.out.trans S3,.inl ⟨_,rfl,rfl⟩⟩
   have HD:=hid hd
   have H9:(tx u).toList.isEmpty=false:=by rw[<-apl];exact z2
   clear hd;go_in;go_wp2_with fail;refine PK.out.mono ?_;rintro e w1 ⟨rfl,q⟩;have LC:=hid (LC.out _ (HR.out.below q.bt));have S:=hid ((St.new (St.refl w rb) iz).trans (aX (bw:=rb) q.bt));clear q
   go_wp2_with (go_at_call 298;refine av (jH d _) ?_;rw[HD.out])
   refine LC.out.mono ?_;rintro e w2 h;obtain⟨rfl,S3⟩:=h.err rfl;unfold fG;go_wp2;exact⟨rfl,S.out.trans S3,.inl ⟨_,rfl,rfl⟩⟩
 | ok p=>
   obtain⟨x,r⟩:=p;rw[hloc]at LC;simp only;have hne:w.heap.size≠rb:=by omega
   have jW:=hid (show L≠[]->bk a≠w.heap.size from fun h=>by have:=htk h;omega);clear htk;rcases hc with z2|⟨d,z2,ix,hd,z3⟩
   ·have H9:(tx u).toList.isEmpty=true:=by rw[<-apl];exact z2
    go_in;go_wp2_with fail;refine PK.out.mono ?_;rintro e w1 ⟨rfl,q⟩;have LC:=hid (LC.out _ (HR.out.below q.bt));have S:=hid (aX (bw:=rb) q.bt);clear q;go_wp2_with fail;refine LC.out.mono ?_;rintro e w2 h;obtain⟨k2,rfl,⟨rfl,hx⟩,R3,S3⟩:=h.cX rfl;have b2:=gj (S.out.trans S3) hrb;have fz:=fun k=>(eW (S.out.trans S3) (b:=w.heap.size) (by simp) (by omega) k).trans (aV w _ _ k)
    obtain⟨p0,p1,p2⟩:=b2.oa;have HS:=hid ((St.new (St.refl w rb) iz).trans (S.out.trans S3));have Ak:=hid R3;have HX:=hid hx;clear S3 R3 h b2 hx;go_wp2;exact bodyPost_ret (by simp[results,results350,go_sem,p0,p1,p2]) rfl ⟨St.put (St.put (St.put HS.out (anb _) _ _) (anb _) _ _) (anb _) _ _,.inr ⟨⟨-1,0,x⟩,k2,rfl,⟨rfl,HX.out⟩,((Ak.out.put hne jW.out _ _).put hne jW.out _ _).put hne jW.out _ _⟩⟩
   have HD:=hid hd
   have H9:(tx u).toList.isEmpty=false:=by rw[<-apl];exact z2
   clear hd;go_in;go_wp2_with fail;refine PK.out.mono ?_;rintro e w1 ⟨rfl,q⟩;have LC:=hid (LC.out _ (HR.out.below q.bt));have S:=hid (aX (bw:=rb) q.bt);clear q
   go_wp2_with (go_at_call 298;refine av (jH d _) ?_;rw[HD.out])
   refine LC.out.mono ?_;rintro e w2 h;obtain⟨k2,rfl,⟨rfl,hx⟩,R3,S3⟩:=h.cX rfl;have b2:=gj (S.out.trans S3) hrb;have fz:=fun k=>(eW (S.out.trans S3) (b:=w.heap.size) (by simp) (by omega) k).trans (aV w _ _ k)
   obtain⟨p0,p1,p2⟩:=b2.oa;have HS:=hid ((St.new (St.refl w rb) iz).trans (S.out.trans S3));have Ak:=hid R3;have HX:=hid hx;clear S3 R3 h b2 hx;go_wp2;exact bodyPost_ret (by simp[results,results350,go_sem,p0,p1,p2]) rfl ⟨St.put (St.put (St.put HS.out (anb _) _ _) (anb _) _ _) (anb _) _ _,.inr ⟨⟨-1,0,x⟩,k2,rfl,⟨rfl,HX.out⟩,((Ak.out.put hne jW.out _ _).put hne jW.out _ _).put hne jW.out _ _⟩⟩
def aax(w:World)(o:Option Nat)(e:Ending)(w':World):Prop:=Below w.heap.size w w'/\match o with
 |some n=>e= .returned (.tuple #[.int .i64 n,.bool true])
 |none=>e= .returned (.tuple #[.int .i64 0,.bool false])
theorem Ya(af:Int)(s:Tx)(w:World):Calls prog 117 #[.int .i64 af,.string (tx s)] w (aax w (dh af s)):=by
 obtain⟨N,hN⟩: ∃N:Nat,dO af=N:=⟨(dO af).toNat,by have:=Dg af;omega⟩;have hb:=Dg af;have CR:=hid (ahW af);have RG:=hid (fun(k:Nat) (hk:(k:Int)<dO af) (w:World)=>ahU af k hk w);have HH:=hid (fun(n:Nat) (h:n<N)=>Ys (af:=af) (s:=s) (n:=n) (by omega));have HM:=hid (fun(hm: ∀m,m<N->ek af m≠s)=>Yu (af:=af) (s:=s) (n:=N) hN.symm hm);have HB:=hid (show ∀k:Nat,k<N->(k:Int)<dO af from fun k hk=>by omega);rw[hN]at CR;generalize dh af s=o at*;have hNb:N<=32:=by omega
 clear hN hb;go_in;go_wp2
 go_loopw [6] (fun i wr=> ∃k:Nat,k<=N/\i= .int .i64 k/\Below w.heap.size w wr/\Hid (∀m,m<k->ek af m≠s)) (fun i _=>N-(intOf i).toNat)
 ·exact⟨0,by omega,rfl,bC,fun m hm=>absurd hm (anC m)⟩
 obtain⟨k,hk,rfl,E,HK⟩:=hrel
 by_cases hlt:k<N
 ·have RC:=hid (RG.out k (HB.out k hlt))
  by_cases he:ek af k=s
  ·have hz:((tx (ek af k)).toList==(tx s).toList)=true:=by rw[iQ];simpa using he
   have HO:=hid (HH.out k hlt HK.out he);clear he;generalize ek af k=u at*
   go_wp2_with (go_at_call 202;refine av (CR.out _) ?_)
   refine(RC.out _).mono ?_;rintro e w1 ⟨rfl,q⟩;have E:=E.trans (q.bt.mono E.size);go_wp2
   go_ret2
   exact⟨E,by rw[HO.out];rfl⟩
  have hz:((tx (ek af k)).toList==(tx s).toList)=false:=mY he
  have cE:=hid (show ∀m,m<k+1->ek af m≠s from fun m hm=>by
   rcases anv.1 hm with h|h
   ·exact HK.out m h
   subst h;exact he)
  clear he;generalize ek af k=u at*
  go_wp2_with (go_at_call 202;refine av (CR.out _) ?_)
  refine(RC.out _).mono ?_;rintro e w1 ⟨rfl,q⟩;have E:=E.trans (q.bt.mono E.size);go_wp2
  go_roundw;exact⟨k+1,by omega,by go_num,E,cE⟩;simp[intOf];omega
 obtain rfl:k=N:=by omega
 have HO:=hid (HM.out HK.out)
 go_wp2_with (go_at_call 202;refine av (CR.out _) ?_)
 go_ret2
 exact⟨E,by rw[HO.out];rfl⟩
def jG(s:Tx)(w:World)(e:Ending)(w':World):Prop:=w=w'/\match cS s with
 |none=>e= .returned (.tuple #[.int .i64 0,.bool false])
 |some v=>if bO v=true then e= .returned (.tuple #[.int .i64 v,.bool true])else e= .returned (.tuple #[.int .i64 0,.bool false])
theorem jG.no(w:World)(h:cS s=none):jG s w (.returned (.tuple #[.int .i64 0,.bool false])) w:=⟨rfl,by rw[h]⟩
theorem jG.yes(w:World)(h:cS s=some v)(hq:bO v=true):jG s w (.returned (.tuple #[.int .i64 v,.bool true])) w:=⟨rfl,by rw[h];simp[hq]⟩
theorem jG.Jv(w:World)(h:cS s=some v)(hq:bO v=false):jG s w (.returned (.tuple #[.int .i64 0,.bool false])) w:=⟨rfl,by rw[h];simp[hq]⟩
theorem ahP(s:Tx)(w:World):Calls prog 116 #[.string (tx s)] w (jG s w):=by
 obtain⟨n,hn⟩:=aj s.length;have hsz:(tx s).size=n:=by rw[aM,hn]
 have HN:=hid hn
 by_cases h0:n=0
 ·have HR:=hid (show cS s=none by unfold cS;rw[if_pos (.inl (ane (by omega)))])
  have z0:((n:Int)==0)=true:=ah;clear hn h0;go_in;go_wp2
  go_ret2
  exact jG.no _ HR.out
 have z0:((n:Int)==0)=false:=ah;have jK:1<=n:=by omega
 by_cases h11:11<n
 ·have HR:=hid (show cS s=none by unfold cS;rw[if_pos (.inr (by omega))])
  clear hn h0;go_in;go_wp2
  go_ret2
  exact jG.no _ HR.out
 obtain⟨c,hc⟩: ∃c,s[0]? =some c:=⟨_,am9 (by omega)⟩;have hh:s.head?=some c:=by rw[<-hc];cases s<;>rfl
 have HU: ¬(s=[]\/11<s.length):=by
  rintro(rfl|h)
  ·exact h0 hn.symm
  omega
 have i0:=kJ s c hc
 by_cases h45:c=45
 ·subst h45
  have z45:(((45:UInt8).toNat:Int)==45)=true:=by decide
  have HV:=hid (show cS s=(if s.drop 1=[]\/(s.drop 1).head?=some 48\/(s.drop 1).all aD=false then none else some (-(eN 0 (s.drop 1):Int))) by unfold cS;rw[if_neg HU,if_pos hh]);clear HU hh hc
  by_cases h1:n=1
  ·have HR:=hid (show cS s=none by rw[HV.out,if_pos (.inl (anj (by omega)))])
   have z1:((1:Int)==(n:Int))=true:=ah;clear hn h0 h1 HV;go_in;go_wp2
   go_ret2
   exact jG.no _ HR.out
  have z1:((1:Int)==(n:Int))=false:=ah;obtain⟨d,hd⟩: ∃d,s[1]? =some d:=⟨_,am9 (by omega)⟩;have om:(s.drop 1).head?=some d:=by rw[List.head?_drop];exact hd
  have i1: ∀w,(apm 9 (.string (tx s)) (.int .i64 1)).run prog w= .ok (.int .u8 d.toNat) w:=bB s 1 d hd
  by_cases h48:d=48
  ·have wY:((d.toNat:Int)==48)=true:=by rw[h48];decide
   have HR:=hid (show cS s=none by rw[HV.out,if_pos (.inr (.inl (by rw[om,h48])))]);clear hn h0 HV om h48 hd
   by_cases h2:2<n
   ·go_in
    go_wp2
    go_ret2
    exact jG.no _ HR.out
   go_in
   go_wp2
   go_ret2
   exact jG.no _ HR.out
  have wY:((d.toNat:Int)==48)=false:=by
   simp only[beq_eq_false_iff_ne,ne_eq];intro e;exact h48 (aph.1 (by have:(48:UInt8).toNat=48:=rfl;omega))
  have HB:=hid (fun(h:(s.drop 1).all aD=false)=>show cS s=none by rw[HV.out,if_pos (.inr (.inr h))])
  have HG:=hid (fun(h:(s.drop 1).all aD=true)=>show cS s=some (-(eN 0 (s.drop 1):Int)) by
   rw[HV.out,if_neg];rintro(h'|h'|h')
   ·rw[h']at om;cases om
   ·rw[om]at h';exact h48 (an4 h')
   rw[h]at h';cases h')
  clear hn h0 HV om h48 hd;go_in;go_wp2_with fail
  go_loop [5,6] (fun v kk=> ∃k V:Nat,k<=n/\kk= .int .i64 k/\v= .int .i64 V/\Hid (jo s 1 k V)) (fun _ kk=>n-(intOf kk).toNat)
  ·exact⟨1,0,by omega,rfl,rfl,jo.zero s 1⟩
  obtain⟨k,V,hk,rfl,rfl,HA⟩:=hrel;have hV:=HA.out.small (by omega)
  by_cases hlt:k<n
  ·obtain⟨x,hx⟩: ∃x,s[k]? =some x:=⟨_,am9 (aI HN.out)⟩
   have ix:=bB s k x hx;cases hd:aD x
   ·have HR:=hid (HB.out (HA.out.bad hx hd))
    have HD:=hid hd;clear hx hd HA
    go_wp2_with (go_at_call 200;refine av (rU x _) ?_;rw[HD.out])
    go_ret2
    exact jG.no _ HR.out
   have HR:=hid (HA.out.step hx hd)
   have HD:=hid hd;obtain⟨x1,x2⟩:=qc hd;clear hx hd HA
   go_wp2_with (go_at_call 200;refine av (rU x _) ?_;rw[HD.out])
   go_round
   case rel=>exact⟨k+1,_,by omega,by go_num,by congr 1;omega,HR.out⟩
   case measure=>simp[intOf];omega
  obtain⟨hv,ha⟩:=HA.out.done (aI HN.out)
  have HR:=hid (HG.out ha);rw[<-hv]at HR;clear hv ha HA;have de: ∀b v,bO v=b-> ∀w,Calls prog 201 #[.int .i64 v] w fun e w'=>e= .returned (.bool b)/\w=w':=fun b v h w=>h▸GH v w
  rcases apk (bO _)with hq|hq
  all_goals go_wp2_with (go_at_call 201;refine av (de _ _ hq _) ?_)
  all_goals go_ret2
  all_goals first|exact jG.yes _ HR.out hq|exact jG.Jv _ HR.out hq
 have z45:((c.toNat:Int)==45)=false:=by
  simp only[beq_eq_false_iff_ne,ne_eq];intro e;exact h45 (aph.1 (by have:(45:UInt8).toNat=45:=rfl;omega))
 have HV:=hid (show cS s=(if(s.head?=some 48/\1<s.length)\/s.all aD=false then none else some (eN 0 s:Int)) by unfold cS;rw[if_neg HU,if_neg (by rw[hh];intro e;exact h45 (an4 e))]);have z1:((0:Int)==(n:Int))=false:=ah;have HB:=hid (fun(h:(s.drop 0).all aD=false)=>show cS s=none by rw[HV.out,if_pos (.inr h)])
 by_cases h48:c=48
 ·have wY:((c.toNat:Int)==48)=true:=by rw[h48];decide
  by_cases h1:1<n
  ·have HR:=hid (show cS s=none by rw[HV.out,if_pos (.inl ⟨by rw[hh,h48],by omega⟩)])
   clear hn h0 HV hh h48 hc HU h45;go_in;go_wp2
   go_ret2
   exact jG.no _ HR.out
  have HG:=hid (fun(h:(s.drop 0).all aD=true)=>show cS s=some (eN 0 (s.drop 0):Int) by
   rw[HV.out,if_neg]
   ·rfl
   rintro(⟨-, h'⟩|h')
   ·omega
   rw[show s.all aD=true from h]at h';cases h')
  clear hn h0 HV hh h48 hc HU h45;go_in;go_wp2_with fail
  go_loop [5,6] (fun v kk=> ∃k V:Nat,k<=n/\kk= .int .i64 k/\v= .int .i64 V/\Hid (jo s 0 k V)) (fun _ kk=>n-(intOf kk).toNat)
  ·exact⟨0,0,by omega,rfl,rfl,jo.zero s 0⟩
  obtain⟨k,V,hk,rfl,rfl,HA⟩:=hrel;have hV:=HA.out.small (by omega)
  by_cases hlt:k<n
  ·obtain⟨x,hx⟩: ∃x,s[k]? =some x:=⟨_,am9 (aI HN.out)⟩
   have ix:=bB s k x hx;cases hd:aD x
   ·have HR:=hid (HB.out (HA.out.bad hx hd))
    have HD:=hid hd;clear hx hd HA
    go_wp2_with (go_at_call 200;refine av (rU x _) ?_;rw[HD.out])
    go_ret2
    exact jG.no _ HR.out
   have HR:=hid (HA.out.step hx hd)
   have HD:=hid hd;obtain⟨x1,x2⟩:=qc hd;clear hx hd HA
   go_wp2_with (go_at_call 200;refine av (rU x _) ?_;rw[HD.out])
   go_round
   case rel=>exact⟨k+1,_,by omega,by go_num,by congr 1;omega,HR.out⟩
   case measure=>simp[intOf];omega
  obtain⟨hv,ha⟩:=HA.out.done (aI HN.out)
  have HR:=hid (HG.out ha);rw[<-hv]at HR;clear hv ha HA;have de: ∀b v,bO v=b-> ∀w,Calls prog 201 #[.int .i64 v] w fun e w'=>e= .returned (.bool b)/\w=w':=fun b v h w=>h▸GH v w
  rcases apk (bO _)with hq|hq
  all_goals go_wp2_with (go_at_call 201;refine av (de _ _ hq _) ?_)
  all_goals go_ret2
  all_goals first|exact jG.yes _ HR.out hq|exact jG.Jv _ HR.out hq
 have wY:((c.toNat:Int)==48)=false:=by
  simp only[beq_eq_false_iff_ne,ne_eq];intro e;exact h48 (aph.1 (by have:(48:UInt8).toNat=48:=rfl;omega))
 have HG:=hid (fun(h:(s.drop 0).all aD=true)=>show cS s=some (eN 0 (s.drop 0):Int) by
  rw[HV.out,if_neg]
  ·rfl
  rintro(⟨h', -⟩|h')
  ·rw[hh]at h';exact h48 (an4 h')
  rw[show s.all aD=true from h]at h';cases h')
 clear hn h0 HV hh h48 hc HU h45;go_in;go_wp2_with fail
 go_loop [5,6] (fun v kk=> ∃k V:Nat,k<=n/\kk= .int .i64 k/\v= .int .i64 V/\Hid (jo s 0 k V)) (fun _ kk=>n-(intOf kk).toNat)
 ·exact⟨0,0,by omega,rfl,rfl,jo.zero s 0⟩
 obtain⟨k,V,hk,rfl,rfl,HA⟩:=hrel;have hV:=HA.out.small (by omega)
 by_cases hlt:k<n
 ·obtain⟨x,hx⟩: ∃x,s[k]? =some x:=⟨_,am9 (aI HN.out)⟩
  have ix:=bB s k x hx;cases hd:aD x
  ·have HR:=hid (HB.out (HA.out.bad hx hd))
   have HD:=hid hd;clear hx hd HA
   go_wp2_with (go_at_call 200;refine av (rU x _) ?_;rw[HD.out])
   go_ret2
   exact jG.no _ HR.out
  have HR:=hid (HA.out.step hx hd)
  have HD:=hid hd;obtain⟨x1,x2⟩:=qc hd;clear hx hd HA
  go_wp2_with (go_at_call 200;refine av (rU x _) ?_;rw[HD.out])
  go_round
  case rel=>exact⟨k+1,_,by omega,by go_num,by congr 1;omega,HR.out⟩
  case measure=>simp[intOf];omega
 obtain⟨hv,ha⟩:=HA.out.done (aI HN.out)
 have HR:=hid (HG.out ha);rw[<-hv]at HR;clear hv ha HA;have de: ∀b v,bO v=b-> ∀w,Calls prog 201 #[.int .i64 v] w fun e w'=>e= .returned (.bool b)/\w=w':=fun b v h w=>h▸GH v w
 rcases apk (bO _)with hq|hq
 all_goals go_wp2_with (go_at_call 201;refine av (de _ _ hq _) ?_)
 all_goals go_ret2
 all_goals first|exact jG.yes _ HR.out hq|exact jG.Jv _ HR.out hq
attribute [local go_sem high] qd gP
abbrev W2(w:World):World:=(w.alloc bR).alloc bR
theorem pn(h:Below (W2 w).heap.size (W2 w) w'):
 (w'.cell? ⟨w.heap.size,0,none⟩=some (.int .i64 0)/\w'.cell? ⟨w.heap.size,1,none⟩=some (.int .i64 0)/\w'.cell? ⟨w.heap.size,2,none⟩=some (.int .i64 0)/\w'.cell? ⟨w.heap.size,3,none⟩=some (.int .i64 0)/\w'.cell? ⟨w.heap.size,4,none⟩=some (.int .i64 0)/\w'.cell? ⟨w.heap.size,5,none⟩=some (.string ⟨#[]⟩)/\w'.cell? ⟨w.heap.size,6,none⟩=some (.string ⟨#[]⟩)/\w'.cell? ⟨w.heap.size,7,none⟩=some (.int .i64 0))/\
 (w'.cell? ⟨w.heap.size+1,0,none⟩=some (.int .i64 0)/\w'.cell? ⟨w.heap.size+1,1,none⟩=some (.int .i64 0)/\w'.cell? ⟨w.heap.size+1,2,none⟩=some (.int .i64 0)/\w'.cell? ⟨w.heap.size+1,3,none⟩=some (.int .i64 0)/\w'.cell? ⟨w.heap.size+1,4,none⟩=some (.int .i64 0)/\w'.cell? ⟨w.heap.size+1,5,none⟩=some (.string ⟨#[]⟩)/\w'.cell? ⟨w.heap.size+1,6,none⟩=some (.string ⟨#[]⟩)/\w'.cell? ⟨w.heap.size+1,7,none⟩=some (.int .i64 0))/\
 (∀k,w'.frozen? ⟨w.heap.size,k,none⟩=false)/\w.heap.size+1<w'.heap.size/\Below w.heap.size w w':=by
 obtain⟨d,f,-, B⟩:=dR (aB (al (w.alloc bR) bR) h);obtain⟨e,-, hlt, -⟩:=dR (w:=w.alloc bR) h;have hs:(w.alloc bR).heap.size=w.heap.size+1:=by simp
 rw[hs]at e hlt;exact⟨d,e,f,hlt,B⟩
theorem GL(s:Tx)(hs:s.length<=9223372036854775807)(w:World):Calls prog 106 #[.string (tx s)] w (aJ w (.string (tx (ak s)))):=
 (NB s hs w).mono fun e w' hh=>⟨hh.1,by rw[<-hh.2];exact Below.refl _ _⟩
theorem ajQ(s:Tx)(hl:262144<s.length)(w:World):Calls prog 47 #[.string (tx s)] w (bI (fT s) w):=by
 obtain⟨r,hr⟩:=aj (fT s);rw[hr];have HK:=hid (show r=none by rw[<-hr];unfold fT;rw[if_pos hl]);obtain⟨n,hn⟩:=aj ((tx s).size);have hz:decide (262144<(n:Int))=true:=by rw[<-hn,aM];simp;omega
 clear hr hl;go_in;go_wp2;exact bodyPost_ret (by simp[results,results47,go_sem]) rfl (bI.no HK.out rfl aF)
theorem ajS(s:Tx)(hl:s.length<=262144)(ht:ak s=[102,101,110,99,101,46,116,115,111])(w:World):Calls prog 47 #[.string (tx s)] w (bI (fT s) w):=by
 obtain⟨r,hr⟩:=aj (fT s);rw[hr];have HK:=hid (show r=some ⟨13,0,0,0,0,[],[],2⟩ by rw[<-hr];unfold fT;rw[if_neg (by omega)];simp only[ht];rw[if_pos trivial]);obtain⟨n,hn⟩:=aj ((tx s).size);have fk:n=s.length:=by rw[<-hn,aM]
 have hz:decide (262144<(n:Int))=false:=ah;have TR:=hid (fun(w:World)=>GL s (by omega) w);rw[ht]at TR;have z:((tx [102,101,110,99,101,46,116,115,111]).toList==[102,101,110,99,101,46,116,115,111])=true:=by rw[bh];rfl
 clear hr hl fk ht;go_in;go_wp2_with fail;refine(TR.out _).mono ?_;rintro e w1 ⟨rfl,E⟩;obtain⟨⟨d0,d1,d2,d3,d4,d5,d6,d7⟩,⟨e0,e1,e2,e3,e4,e5,e6,e7⟩,hf,hlt,B⟩:=pn E;clear E;go_wp2;exact bodyPost_ret (by simp[results,results47,go_sem,d0,d1,d2,d3,d4,d5,d6,d7]) rfl (bI.aae HK.out rfl aF)
theorem ajP(s t:Tx)(hl:s.length<=262144)(ht:ak s=t)(h1:t≠[102,101,110,99,101,46,116,115,111])(h2:t.getLast?=some 58)(w:World):Calls prog 47 #[.string (tx s)] w (bI (fT s) w):=by
 obtain⟨r,hr⟩:=aj (fT s);rw[hr];have HK:=hid (show r=if aC (ak t.dropLast)then some ⟨12,0,0,0,0,[],ak t.dropLast,0⟩else none by rw[<-hr];unfold fT;rw[if_neg (by omega)];simp only[ht];rw[if_neg h1,if_pos h2]);obtain⟨n,hn⟩:=aj ((tx s).size);have fk:n=s.length:=by rw[<-hn,aM]
 have hz:decide (262144<(n:Int))=false:=ah;have TR:=hid (fun(w:World)=>GL s (by omega) w);rw[ht]at TR;have htl:=jS s;rw[ht]at htl;have z:((tx t).toList==[102,101,110,99,101,46,116,115,111])=false:=cY _ _ h1;obtain⟨m,hm⟩:=aj t.length;have LF:(tx t).size=m:=by rw[aM,hm]
 have tg:1<=m:=by
  rcases apo m with h0|h0
  ·rw[h0]at hm;have:=ane hm;rw[this]at h2;cases h2
  exact h0
 have ix: ∀w,(apm 9 (.string (tx t)) (.int .i64 ((m:Int)-1))).run prog w= .ok (.int .u8 (58:UInt8).toNat) w:=by
  have:=bB t (m-1) 58 (by rw[<-h2,apn,hm])
  rwa[show((m-1:Nat):Int)=(m:Int)-1 by omega]at this
 have z58:(((58:UInt8).toNat:Int)==58)=true:=by decide
 have sl: ∀w,(anh 9 (.string (tx t)) none (some (.int .i64 ((m:Int)-1))) none).run prog w= .ok (.string (tx t.dropLast)) w:=by
  have:=qE t (m-1) (by omega)
  rwa[show((m-1:Nat):Int)=(m:Int)-1 by omega,show t.take (m-1)=t.dropLast by rw[List.dropLast_eq_take,hm]]at this
 have T2:=hid (fun(w:World)=>GL t.dropLast ah w);have dK:=jS t.dropLast;have hmb:m<=262144:=by omega
 rw[List.length_dropLast,hm]at dK;generalize t.dropLast=u at*;generalize ak u=lb at*;have CK:=hid (fun(w:World)=>yU ⟨12,0,0,0,0,[],lb,0⟩ ah w);clear hr hl fk ht h2 h1 hm htl
 by_cases hnm:aC lb=true
 ·skip
  have hE:=qf (i:=⟨12,0,0,0,0,[],lb,0⟩) (by rw[A7];exact hnm);rw[if_pos hnm]at HK;rw[hE]at CK;clear hE hnm;go_in;go_wp2_with fail;refine(TR.out _).mono ?_;rintro e w1 ⟨rfl,E⟩;go_wp2_with fail;refine(T2.out _).mono ?_;rintro e w3 ⟨rfl,E3⟩;have E:=aB E E3;go_wp2_with fail;refine(CK.out _).mono ?_;rintro e w4 ⟨rfl,E4⟩;obtain⟨⟨f0,f1,f2,f3,f4,f5,f6,f7⟩,mH,bU,B2⟩:=Bn E4;have E:=aB E B2;obtain⟨⟨d0,d1,d2,d3,d4,d5,d6,d7⟩,⟨e0,e1,e2,e3,e4,e5,e6,e7⟩,hf,hlt,B⟩:=pn E;clear E E3 E4 B2;go_wp2;exact bodyPost_ret (by simp[results,results47,go_sem,d0,d1,d2,d3,d4,d5,d6,d7]) rfl (bI.yes HK.out rfl aF)
 skip
 have hE:=iX (i:=⟨12,0,0,0,0,[],lb,0⟩) (by rw[A7];simpa using hnm);rw[if_neg hnm]at HK;rw[hE]at CK;clear hE hnm;go_in;go_wp2_with fail;refine(TR.out _).mono ?_;rintro e w1 ⟨rfl,E⟩;go_wp2_with fail;refine(T2.out _).mono ?_;rintro e w3 ⟨rfl,E3⟩;have E:=aB E E3;go_wp2_with fail;refine(CK.out _).mono ?_;rintro e w4 ⟨rfl,E4⟩;obtain⟨⟨f0,f1,f2,f3,f4,f5,f6,f7⟩,mH,bU,B2⟩:=Bn E4;have E:=aB E B2;obtain⟨⟨d0,d1,d2,d3,d4,d5,d6,d7⟩,⟨e0,e1,e2,e3,e4,e5,e6,e7⟩,hf,hlt,B⟩:=pn E;clear E E3 E4 B2;go_wp2;exact bodyPost_ret (by simp[results,results47,go_sem,d0,d1,d2,d3,d4,d5,d6,d7]) rfl (bI.no HK.out rfl aF)
theorem ajR(s t:Tx)(hl:s.length<=262144)(ht:ak s=t)(h1:t≠[102,101,110,99,101,46,116,115,111])(h2: ¬t.getLast?=some 58)(w:World):Calls prog 47 #[.string (tx s)] w (bI (fT s) w):=by
 obtain⟨r,hr⟩:=aj (fT s);rw[hr];have HK:=hid (show dZ (t.takeWhile fun c=> !aq c) ((aH 44 (t.dropWhile fun c=> !aq c)).map ak)=r by rw[<-hr];unfold fT;rw[if_neg (by omega)];simp only[ht];rw[if_neg h1,if_neg h2]);obtain⟨n,hn⟩:=aj ((tx s).size);have fk:n=s.length:=by rw[<-hn,aM]
 have hz:decide (262144<(n:Int))=false:=ah;have TR:=hid (fun(w:World)=>GL s (by omega) w);rw[ht]at TR;have htl:=jS s;rw[ht]at htl;have z:((tx t).toList==[102,101,110,99,101,46,116,115,111])=false:=cY _ _ h1;obtain⟨m,hm⟩:=aj t.length;have LF:(tx t).size=m:=by rw[aM,hm]
 have hmb:m<=262144:=by omega
 have HM:=hid hm
 have HG:Hid (0<m-> ∃x:UInt8,(∀w,(apm 9 (.string (tx t)) (.int .i64 ((m:Int)-1))).run prog w= .ok (.int .u8 x.toNat) w)/\((x.toNat:Int)==58)=false):=hid (fun h0=>by
  obtain⟨x,hx⟩: ∃x,t[m-1]? =some x:=⟨_,am9 (by omega)⟩;refine⟨x,?_,ZT x 58 (fun e=>h2 (by rw[apn,hm,hx,e]))⟩;have:=bB t (m-1) x hx
  rwa[show((m-1:Nat):Int)=(m:Int)-1 by omega]at this)
 clear hr hl fk ht h2 h1 hm htl
 have Pr:m=0\/(0<m/\ ∃x:UInt8,(∀w,(apm 9 (.string (tx t)) (.int .i64 ((m:Int)-1))).run prog w= .ok (.int .u8 x.toNat) w)/\((x.toNat:Int)==58)=false):=by
  rcases apo m with h|h
  ·exact .inl h
  exact .inr ⟨h,HG.out h⟩
 clear HG;have aan:=hid Pr;clear Pr;rcases aan.out with rfl|⟨h0,x,rF,z58⟩
 ·skip
  go_in;go_wp2_with fail;refine(TR.out _).mono ?_;rintro e w1 ⟨rfl,E⟩;go_wp2_with fail
  go_loop [6] (fun i=> ∃k:Nat,k<=0/\i= .int .i64 k/\Hid (∀(j:Nat) (c:UInt8),j<k->t[j]? =some c->aq c=false)) (fun i=>0-(intOf i).toNat)
  ·exact⟨0,by omega,rfl,fun j c hj=>absurd hj (anC j)⟩
  obtain⟨k,hk,rfl,HB⟩:=hrel
  by_cases hend:k<0/\ ∃c,t[k]? =some c/\aq c=false
  ·obtain⟨hlt,c,hc,hbc⟩:=hend
   omega
  have hlen:=Hf (fun c=> !aq c) t k (fun j c hj hc=>by rw[HB.out j c hj hc];rfl) (fun c hc=>by
   have hlt:=(anx.1 hc).1;cases hb:aq c with
   |true=>rfl
   |false=>exact absurd ⟨by have:=HM.out;omega,c,hc,hb⟩ hend) (aI HM.out)
  have cE:=HK.out;rw[Dq,Fk,hlen]at cE;have y7:=qE t k (aI HM.out);have nR:=qD t k (aI HM.out);have hsm:Sm ((aH 44 (t.drop k)).map ak):=Oe 44 _ (by have:=HM.out;simp;omega);have SP:=hid (fun(w:World)=>Nz (t.drop k) 44 (by have:=HM.out;simp;omega) w);have RD:=hid (fun(a:Option Addr) (c:Nat) (w:World) (h:bS w a ((aH 44 (t.drop k)).map ak))=>Yq (t.take k) _ a c w h hsm);rw[cE]at RD;clear hsm cE HK hlen;generalize (aH 44 (t.drop k)).map ak=ps at*;generalize t.drop k=t2 at*;generalize t.take k=t1 at*
  have hex:(k<0/\ ∃c,t[k]? =some c/\aq c=true)\/k=0:=by
   by_cases hkm:k<0
   ·left
    obtain⟨c,hc⟩: ∃c,t[k]? =some c:=⟨_,am9 (aI HM.out)⟩;refine⟨hkm,c,hc,?_⟩;cases hb:aq c with
    |true=>rfl
    |false=>exact absurd ⟨hkm,c,hc,hb⟩ hend
   right;omega
  clear hend;obtain rfl:k=0:=by omega
  clear hex;have Zj: ∀w,(anh 9 (.string (tx t)) none (some (.int .i64 0)) none).run prog w= .ok (.string (tx t1)) w:=y7;have sl4: ∀w,(anh 9 (.string (tx t)) (some (.int .i64 0)) none none).run prog w= .ok (.string (tx t2)) w:=nR;clear y7 nR
  go_wp2_with fail
  go_cut [7,8] (fun x y wx=> ∃(bb:Nat) (op d a1 b1 ag:Int) (label:Tx) (ai:Int) (ok:Bool),x= .pointer (some ⟨bb,0,none⟩)/\y= .bool ok/\Hid (dX ⟨op,d,a1,b1,ag,[],label,ai⟩ ok=r)/\label.length<=1000000/\gH wx bb ⟨op,d,a1,b1,ag,[],label,ai⟩/\Below (W2 w).heap.size (W2 w) wx)
  case first=>
   go_region_with (first|(go_at_call 110;refine(SP.out _).mono ?_;rintro e' w' ⟨a2,c2,rfl,nT,E2⟩;have E5:=aB (a:=w1) aF E2;have s5:=E5.size)|(go_at_call 109;refine(RD.out _ _ _ (by first|exact nT|exact nT.below (al _ _))).mono ?_;rintro e' w' ⟨op,d,a1,b,ag,label,ai,ok,rfl,hk,hl,E3⟩;have E6:=aB (a:=w1) (by first|exact E5|exact eZ E5 _) E3;have s6:=E6.size;first|(revert E3;with_reducible refine xV ?_;intro E3 f0 f1 f2 f3 f4 f5 f6 f7 mH bU)|(have jn:=aB E2 E3;revert jn;with_reducible refine Bo ?_;intro jn f0 f1 f2 f3 f4 f5 f6 f7 mH bU)|skip))
   all_goals
    go_wp2_with fail
    go_meet
    refine⟨_,op,d,a1,b,ag,label,ai,ok,rfl,rfl,hk,hl,gH.Cu rfl ?_ ?_ ?_ ?_ ?_ ?_ ?_ ?_ ?_,aB E aF⟩
    all_goals go_simp
  case rest=>
   clear E;obtain⟨bb,op,d,a1,b1,ag,label,ai,ok,rfl,rfl,hkk,hl,bx,E⟩:=hcut;have CK:=hid (fun(w:World)=>yU ⟨op,d,a1,b1,ag,[],label,ai⟩ ah w);obtain⟨q0,q1,q2,q3,q4,q5,q6,q7⟩:=bx.cells;cases ok
   ·obtain⟨⟨d0,d1,d2,d3,d4,d5,d6,d7⟩,⟨e0,e1,e2,e3,e4,e5,e6,e7⟩,hf,hlt,B⟩:=pn E
    have HN:=hid (show r=none from hkk.out.symm);clear E q0 q1 q2 q3 q4 q5 q6 q7 bx;go_wp2_with fail;exact bodyPost_ret (by simp[results,results47,go_sem,d0,d1,d2,d3,d4,d5,d6,d7]) rfl (bI.no HN.out rfl aF)
   cases bY:bX ⟨op,d,a1,b1,ag,[],label,ai⟩
   ·have hE:=iX bY
    have HN:=hid (show r=none by rw[<-hkk.out];unfold dX;rw[bY];rfl);rw[hE]at CK;clear hE bY;go_wp2_with fail;refine(CK.out _).mono ?_;rintro e w9 ⟨rfl,E4⟩;have E:=E.trans (E4.mono E.size);obtain⟨⟨d0,d1,d2,d3,d4,d5,d6,d7⟩,⟨e0,e1,e2,e3,e4,e5,e6,e7⟩,hf,hlt,B⟩:=pn E;clear E E4 q0 q1 q2 q3 q4 q5 q6 q7 bx;go_wp2_with fail;exact bodyPost_ret (by simp[results,results47,go_sem,d0,d1,d2,d3,d4,d5,d6,d7]) rfl (bI.no HN.out rfl aF)
   have hE:=qf bY
   have HN:=hid (show r=some ⟨op,d,a1,b1,ag,[],label,ai⟩ by rw[<-hkk.out];unfold dX;rw[bY];rfl);rw[hE]at CK;clear hE bY;go_wp2_with fail;refine(CK.out _).mono ?_;rintro e w9 ⟨rfl,E4⟩;have E:=E.trans (E4.mono E.size);have bx:=bx.below E4;clear q0 q1 q2 q3 q4 q5 q6 q7;obtain⟨q0,q1,q2,q3,q4,nN,q6,q7⟩:=bx.cells;have q5:w9.cell? ⟨bb,5,none⟩=some (.string ⟨#[]⟩):=nN;clear nN;obtain⟨⟨d0,d1,d2,d3,d4,d5,d6,d7⟩,⟨e0,e1,e2,e3,e4,e5,e6,e7⟩,hf,hlt,B⟩:=pn E;clear E E4 bx;go_wp2_with fail;exact bodyPost_ret (by simp[results,results47,go_sem,d0,d1,d2,d3,d4,d5,d6,d7]) rfl (bI.yes HN.out rfl aF)
 skip
 go_in;go_wp2_with fail;refine(TR.out _).mono ?_;rintro e w1 ⟨rfl,E⟩;go_wp2_with fail
 go_loop [6] (fun i=> ∃k:Nat,k<=m/\i= .int .i64 k/\Hid (∀(j:Nat) (c:UInt8),j<k->t[j]? =some c->aq c=false)) (fun i=>m-(intOf i).toNat)
 ·exact⟨0,by omega,rfl,fun j c hj=>absurd hj (anC j)⟩
 obtain⟨k,hk,rfl,HB⟩:=hrel
 by_cases hend:k<m/\ ∃c,t[k]? =some c/\aq c=false
 ·obtain⟨hlt,c,hc,hbc⟩:=hend
  have ix:=bB t k c hc
  have xj:=hid (show ∀(j:Nat) (c:UInt8),j<k+1->t[j]? =some c->aq c=false from fun j c' hj hc'=>by
   rcases anv.1 hj with h|h
   ·exact HB.out j c' h hc'
   subst h;rw[hc]at hc';cases hc';exact hbc)
  have HC:=hid hbc;clear hc hbc
  go_wp2_with (go_at_call 108;refine av (uQ c _) ?_;rw[HC.out])
  go_round
  case rel=>exact⟨k+1,by omega,by go_num,xj⟩
  case measure=>simp[intOf];omega
 have hlen:=Hf (fun c=> !aq c) t k (fun j c hj hc=>by rw[HB.out j c hj hc];rfl) (fun c hc=>by
  have hlt:=(anx.1 hc).1;cases hb:aq c with
  |true=>rfl
  |false=>exact absurd ⟨by have:=HM.out;omega,c,hc,hb⟩ hend) (aI HM.out)
 have cE:=HK.out;rw[Dq,Fk,hlen]at cE;have y7:=qE t k (aI HM.out);have nR:=qD t k (aI HM.out);have hsm:Sm ((aH 44 (t.drop k)).map ak):=Oe 44 _ (by have:=HM.out;simp;omega);have SP:=hid (fun(w:World)=>Nz (t.drop k) 44 (by have:=HM.out;simp;omega) w);have RD:=hid (fun(a:Option Addr) (c:Nat) (w:World) (h:bS w a ((aH 44 (t.drop k)).map ak))=>Yq (t.take k) _ a c w h hsm);rw[cE]at RD;clear hsm cE HK hlen;generalize (aH 44 (t.drop k)).map ak=ps at*;generalize t.drop k=t2 at*;generalize t.take k=t1 at*
 have hex:(k<m/\ ∃c,t[k]? =some c/\aq c=true)\/k=m:=by
  by_cases hkm:k<m
  ·left
   obtain⟨c,hc⟩: ∃c,t[k]? =some c:=⟨_,am9 (aI HM.out)⟩;refine⟨hkm,c,hc,?_⟩;cases hb:aq c with
   |true=>rfl
   |false=>exact absurd ⟨hkm,c,hc,hb⟩ hend
  right;omega
 clear hend;rcases hex with⟨hlt,c,hc,hbc⟩|rfl
 ·have ix:=bB t k c hc
  have HC:=hid hbc;clear hc hbc
  go_wp2_with (go_at_call 108;refine av (uQ c _) ?_;rw[HC.out])
  go_cut [7,8] (fun x y wx=> ∃(bb:Nat) (op d a1 b1 ag:Int) (label:Tx) (ai:Int) (ok:Bool),x= .pointer (some ⟨bb,0,none⟩)/\y= .bool ok/\Hid (dX ⟨op,d,a1,b1,ag,[],label,ai⟩ ok=r)/\label.length<=1000000/\gH wx bb ⟨op,d,a1,b1,ag,[],label,ai⟩/\Below (W2 w).heap.size (W2 w) wx)
  case first=>
   go_region_with (first|(go_at_call 110;refine(SP.out _).mono ?_;rintro e' w' ⟨a2,c2,rfl,nT,E2⟩;have E5:=aB (a:=w1) aF E2;have s5:=E5.size)|(go_at_call 109;refine(RD.out _ _ _ (by first|exact nT|exact nT.below (al _ _))).mono ?_;rintro e' w' ⟨op,d,a1,b,ag,label,ai,ok,rfl,hk,hl,E3⟩;have E6:=aB (a:=w1) (by first|exact E5|exact eZ E5 _) E3;have s6:=E6.size;first|(revert E3;with_reducible refine xV ?_;intro E3 f0 f1 f2 f3 f4 f5 f6 f7 mH bU)|(have jn:=aB E2 E3;revert jn;with_reducible refine Bo ?_;intro jn f0 f1 f2 f3 f4 f5 f6 f7 mH bU)|skip))
   all_goals
    go_wp2_with fail
    go_meet
    refine⟨_,op,d,a1,b,ag,label,ai,ok,rfl,rfl,hk,hl,gH.Cu rfl ?_ ?_ ?_ ?_ ?_ ?_ ?_ ?_ ?_,aB E aF⟩
    all_goals go_simp
  case rest=>
   clear E;obtain⟨bb,op,d,a1,b1,ag,label,ai,ok,rfl,rfl,hkk,hl,bx,E⟩:=hcut;have CK:=hid (fun(w:World)=>yU ⟨op,d,a1,b1,ag,[],label,ai⟩ ah w);obtain⟨q0,q1,q2,q3,q4,q5,q6,q7⟩:=bx.cells;cases ok
   ·obtain⟨⟨d0,d1,d2,d3,d4,d5,d6,d7⟩,⟨e0,e1,e2,e3,e4,e5,e6,e7⟩,hf,hlt,B⟩:=pn E
    have HN:=hid (show r=none from hkk.out.symm);clear E q0 q1 q2 q3 q4 q5 q6 q7 bx;go_wp2_with fail;exact bodyPost_ret (by simp[results,results47,go_sem,d0,d1,d2,d3,d4,d5,d6,d7]) rfl (bI.no HN.out rfl aF)
   cases bY:bX ⟨op,d,a1,b1,ag,[],label,ai⟩
   ·have hE:=iX bY
    have HN:=hid (show r=none by rw[<-hkk.out];unfold dX;rw[bY];rfl);rw[hE]at CK;clear hE bY;go_wp2_with fail;refine(CK.out _).mono ?_;rintro e w9 ⟨rfl,E4⟩;have E:=E.trans (E4.mono E.size);obtain⟨⟨d0,d1,d2,d3,d4,d5,d6,d7⟩,⟨e0,e1,e2,e3,e4,e5,e6,e7⟩,hf,hlt,B⟩:=pn E;clear E E4 q0 q1 q2 q3 q4 q5 q6 q7 bx;go_wp2_with fail;exact bodyPost_ret (by simp[results,results47,go_sem,d0,d1,d2,d3,d4,d5,d6,d7]) rfl (bI.no HN.out rfl aF)
   have hE:=qf bY
   have HN:=hid (show r=some ⟨op,d,a1,b1,ag,[],label,ai⟩ by rw[<-hkk.out];unfold dX;rw[bY];rfl);rw[hE]at CK;clear hE bY;go_wp2_with fail;refine(CK.out _).mono ?_;rintro e w9 ⟨rfl,E4⟩;have E:=E.trans (E4.mono E.size);have bx:=bx.below E4;clear q0 q1 q2 q3 q4 q5 q6 q7;obtain⟨q0,q1,q2,q3,q4,nN,q6,q7⟩:=bx.cells;have q5:w9.cell? ⟨bb,5,none⟩=some (.string ⟨#[]⟩):=nN;clear nN;obtain⟨⟨d0,d1,d2,d3,d4,d5,d6,d7⟩,⟨e0,e1,e2,e3,e4,e5,e6,e7⟩,hf,hlt,B⟩:=pn E;clear E E4 bx;go_wp2_with fail;exact bodyPost_ret (by simp[results,results47,go_sem,d0,d1,d2,d3,d4,d5,d6,d7]) rfl (bI.yes HN.out rfl aF)
 go_wp2_with fail
 go_cut [7,8] (fun x y wx=> ∃(bb:Nat) (op d a1 b1 ag:Int) (label:Tx) (ai:Int) (ok:Bool),x= .pointer (some ⟨bb,0,none⟩)/\y= .bool ok/\Hid (dX ⟨op,d,a1,b1,ag,[],label,ai⟩ ok=r)/\label.length<=1000000/\gH wx bb ⟨op,d,a1,b1,ag,[],label,ai⟩/\Below (W2 w).heap.size (W2 w) wx)
 case first=>
  go_region_with (first|(go_at_call 110;refine(SP.out _).mono ?_;rintro e' w' ⟨a2,c2,rfl,nT,E2⟩;have E5:=aB (a:=w1) aF E2;have s5:=E5.size)|(go_at_call 109;refine(RD.out _ _ _ (by first|exact nT|exact nT.below (al _ _))).mono ?_;rintro e' w' ⟨op,d,a1,b,ag,label,ai,ok,rfl,hk,hl,E3⟩;have E6:=aB (a:=w1) (by first|exact E5|exact eZ E5 _) E3;have s6:=E6.size;first|(revert E3;with_reducible refine xV ?_;intro E3 f0 f1 f2 f3 f4 f5 f6 f7 mH bU)|(have jn:=aB E2 E3;revert jn;with_reducible refine Bo ?_;intro jn f0 f1 f2 f3 f4 f5 f6 f7 mH bU)|skip))
  all_goals
   go_wp2_with fail
   go_meet
   refine⟨_,op,d,a1,b,ag,label,ai,ok,rfl,rfl,hk,hl,gH.Cu rfl ?_ ?_ ?_ ?_ ?_ ?_ ?_ ?_ ?_,aB E aF⟩
   all_goals go_simp
 case rest=>
  clear E;obtain⟨bb,op,d,a1,b1,ag,label,ai,ok,rfl,rfl,hkk,hl,bx,E⟩:=hcut;have CK:=hid (fun(w:World)=>yU ⟨op,d,a1,b1,ag,[],label,ai⟩ ah w);obtain⟨q0,q1,q2,q3,q4,q5,q6,q7⟩:=bx.cells;cases ok
  ·obtain⟨⟨d0,d1,d2,d3,d4,d5,d6,d7⟩,⟨e0,e1,e2,e3,e4,e5,e6,e7⟩,hf,hlt,B⟩:=pn E
   have HN:=hid (show r=none from hkk.out.symm);clear E q0 q1 q2 q3 q4 q5 q6 q7 bx;go_wp2_with fail;exact bodyPost_ret (by simp[results,results47,go_sem,d0,d1,d2,d3,d4,d5,d6,d7]) rfl (bI.no HN.out rfl aF)
  cases bY:bX ⟨op,d,a1,b1,ag,[],label,ai⟩
  ·have hE:=iX bY
   have HN:=hid (show r=none by rw[<-hkk.out];unfold dX;rw[bY];rfl);rw[hE]at CK;clear hE bY;go_wp2_with fail;refine(CK.out _).mono ?_;rintro e w9 ⟨rfl,E4⟩;have E:=E.trans (E4.mono E.size);obtain⟨⟨d0,d1,d2,d3,d4,d5,d6,d7⟩,⟨e0,e1,e2,e3,e4,e5,e6,e7⟩,hf,hlt,B⟩:=pn E;clear E E4 q0 q1 q2 q3 q4 q5 q6 q7 bx;go_wp2_with fail;exact bodyPost_ret (by simp[results,results47,go_sem,d0,d1,d2,d3,d4,d5,d6,d7]) rfl (bI.no HN.out rfl aF)
  have hE:=qf bY
  have HN:=hid (show r=some ⟨op,d,a1,b1,ag,[],label,ai⟩ by rw[<-hkk.out];unfold dX;rw[bY];rfl);rw[hE]at CK;clear hE bY;go_wp2_with fail;refine(CK.out _).mono ?_;rintro e w9 ⟨rfl,E4⟩;have E:=E.trans (E4.mono E.size);have bx:=bx.below E4;clear q0 q1 q2 q3 q4 q5 q6 q7;obtain⟨q0,q1,q2,q3,q4,nN,q6,q7⟩:=bx.cells;have q5:w9.cell? ⟨bb,5,none⟩=some (.string ⟨#[]⟩):=nN;clear nN;obtain⟨⟨d0,d1,d2,d3,d4,d5,d6,d7⟩,⟨e0,e1,e2,e3,e4,e5,e6,e7⟩,hf,hlt,B⟩:=pn E;clear E E4 bx;go_wp2_with fail;exact bodyPost_ret (by simp[results,results47,go_sem,d0,d1,d2,d3,d4,d5,d6,d7]) rfl (bI.yes HN.out rfl aF)
theorem ajO(s:Tx)(w:World):Calls prog 47 #[.string (tx s)] w (bI (fT s) w):=by
 by_cases hl:s.length<=262144
 ·by_cases h1:ak s=[102,101,110,99,101,46,116,115,111]
  ·exact ajS s hl h1 w
  by_cases h2:(ak s).getLast?=some 58
  ·exact ajP s _ hl rfl h1 h2 w
  exact ajR s _ hl rfl h1 h2 w
 exact ajQ s (by omega) w
end Go.Proofs.YtkbbgjloifmmbaaGreatDoor
