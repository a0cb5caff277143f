/- What ReadPiecesP leans on, part 14. -/
import Derived.Test.YtkbbgjloifmmbaaGreatDoorRp13
set_option linter.unusedVariables false
set_option maxRecDepth 100000
set_option maxHeartbeats 6400000
namespace Go.Proofs.YtkbbgjloifmmbaaGreatDoor
open Go.RowKit
def OptV{α:Type}(o:Option α)(v:α)(ok:Bool):Prop:=o=if ok=true then some v else none
theorem OptV.yes{α:Type}{o:Option α}{v:α}(h:OptV o v true):o=some v:=h
theorem OptV.no{α:Type}{o:Option α}{v:α}(h:OptV o v false):o=none:=h
def RetNum(o:Option Int)(w:World)(e:Ending)(w':World):Prop:= ∃v ok,e= .returned (.tuple #[.int .i64 v,.bool ok])/\OptV o v ok/\Below w.heap.size w w'
theorem num_out{s:Tx}{v:Int}(h:Lib.atoiAll s= .ok v)(hn:n32B v=true):OptV (numR s) v (Lib.itoa v==s):=by
 unfold OptV;rw[numR_ok h]
 by_cases hh:Lib.itoa v=s
 ·rw[if_pos ⟨hh,hn⟩,if_pos (by simpa using hh)]
 ·rw[if_neg (fun h=>hh h.1),if_neg (by simpa using hh)]
theorem num_far{s:Tx}{v:Int}(h:Lib.atoiAll s= .ok v)(hn:n32B v=false)(u:Int):OptV (numR s) u false:=by
 unfold OptV;rw[numR_ok h,if_neg (by rw[hn];rintro⟨-, h⟩;cases h)];rfl
theorem num_bad{s:Tx}(h: ∀v,Lib.atoiAll s≠ .ok v)(u:Int):OptV (numR s) u false:=numR_bad h
theorem n32_iff{v:Int}:n32B v=true<-> -2147483648<=v/\v<=2147483647:=by unfold n32B;rw[Bool.and_eq_true,decide_eq_true_eq,decide_eq_true_eq]
theorem intelNum(s:Tx)(hl:s.length<=1000000)(w:World)(g:Gl w):Calls Tryz.prog 175 #[.string (tx s)] w (RetNum (numR s) w):=by
 by_cases hv: ∃v,Lib.atoiAll s= .ok v
 ·obtain⟨v,hv⟩:=hv
  obtain⟨b1,b2⟩:=Lib.atoiAll_bounds hv;have AT:=hid (atoi_ok s hl v hv);have IT:=hid (fun(w:World) (g:Gl w)=>itoa_any v b1 b2 w g);cases hb:n32B v with
  | true=>
    have HB:=hid hb;have HO:=hid (num_out hv hb);obtain⟨c1,c2⟩:=n32_iff.1 hb;obtain⟨u,hu⟩: ∃u,Lib.itoa v=u:=⟨_,rfl⟩;rw[hu]at HO IT;have hz:((tx u).toList==(tx s).toList)=(u==s):=tx_beq u s;generalize (u==s)=bb at*;have z1:decide (-2147483648<=v)=true:=by simpa using c1
    have z2:decide (v<=2147483647)=true:=by simpa using c2
    clear hv hb hu b1 b2 c1 c2 hl;go_enter Tryz.func175,Tryz.ntmps175;go_wp2_with fail;refine(AT.out _).mono ?_;rintro e w1 ⟨rfl,E⟩;have g1:=g.below E
    go_wp2_with (first|fail|(go_at_call 178;refine(intelNumber v _).mono ?_;rintro e w' ⟨rfl,rfl⟩;rw[HB.out]))
    refine(IT.out _ g1).mono ?_;rintro e w2 ⟨rfl,E2⟩;have E:=E.trans (E2.mono E.size);cases bb<;>
    ·go_wp2_with fail
     go_ret2
     exact⟨v,_,rfl,HO.out,E⟩
  | false=>
    have HB:=hid hb;have HO:=hid (num_far hv hb);clear hv hb b1 b2 hl;go_enter Tryz.func175,Tryz.ntmps175;go_wp2_with fail;refine(AT.out _).mono ?_;rintro e w1 ⟨rfl,E⟩
    go_wp2_with (first|fail|(go_at_call 178;refine(intelNumber v _).mono ?_;rintro e w' ⟨rfl,rfl⟩;rw[HB.out]))
    go_ret2
    exact⟨v,_,rfl,HO.out _,E⟩
 ·have hv: ∀v,Lib.atoiAll s≠ .ok v:=fun v h=>hv ⟨v,h⟩
  have AT:=hid (atoi_bad s hl hv);have HO:=hid (num_bad hv);clear hv hl;go_enter Tryz.func175,Tryz.ntmps175;go_wp2_with fail;refine(AT.out _ g).mono ?_;rintro e w1 ⟨n,tp,p,rfl,E⟩;go_wp2_with fail
  go_ret2
  exact⟨n,_,rfl,HO.out _,E⟩
theorem readNum(s:Tx)(hl:s.length<=1000000)(w:World)(g:Gl w):Calls Tryz.prog 51 #[.string (tx s)] w (RetNum (numR s) w):=by
 by_cases hv: ∃v,Lib.atoiAll s= .ok v
 ·obtain⟨v,hv⟩:=hv
  obtain⟨b1,b2⟩:=Lib.atoiAll_bounds hv;have AT:=hid (atoi_ok s hl v hv);have IT:=hid (fun(w:World) (g:Gl w)=>itoa_any v b1 b2 w g);cases hb:n32B v with
  | true=>
    have HB:=hid hb;have HO:=hid (num_out hv hb);obtain⟨c1,c2⟩:=n32_iff.1 hb;obtain⟨u,hu⟩: ∃u,Lib.itoa v=u:=⟨_,rfl⟩;rw[hu]at HO IT;have hz:((tx u).toList==(tx s).toList)=(u==s):=tx_beq u s;generalize (u==s)=bb at*;have z1:decide (-2147483648<=v)=true:=by simpa using c1
    have z2:decide (v<=2147483647)=true:=by simpa using c2
    clear hv hb hu b1 b2 c1 c2 hl;go_enter Tryz.func51,Tryz.ntmps51;go_wp2_with fail;refine(AT.out _).mono ?_;rintro e w1 ⟨rfl,E⟩;have g1:=g.below E
    go_wp2_with (first|fail)
    refine(IT.out _ g1).mono ?_;rintro e w2 ⟨rfl,E2⟩;have E:=E.trans (E2.mono E.size);cases bb<;>
    ·go_wp2_with fail
     go_ret2
     exact⟨v,_,rfl,HO.out,E⟩
  | false=>
    have HO:=hid (num_far hv hb)
    have c:v< -2147483648\/(-2147483648<=v/\2147483647<v):=by
     rcases Int.lt_or_le v (-2147483648)with h|h
     ·exact .inl h
     ·refine .inr ⟨h,?_⟩
      rcases Int.lt_or_le 2147483647 v with h'|h'
      ·exact h'
      ·rw[n32_iff.2 ⟨h,h'⟩]at hb;cases hb
    obtain⟨u,hu⟩: ∃u,Lib.itoa v=u:=⟨_,rfl⟩;rw[hu]at IT;have hz:((tx u).toList==(tx s).toList)=(u==s):=tx_beq u s;generalize (u==s)=bb at*;clear hv hb hu b1 b2 hl;rcases c with c|⟨c1,c2⟩
    ·have z1:decide (-2147483648<=v)=false:=by simp;omega
     clear c;go_enter Tryz.func51,Tryz.ntmps51;go_wp2_with fail;refine(AT.out _).mono ?_;rintro e w1 ⟨rfl,E⟩;have g1:=g.below E;go_wp2_with fail;refine(IT.out _ g1).mono ?_;rintro e w2 ⟨rfl,E2⟩;have E:=E.trans (E2.mono E.size);cases bb<;>
     ·go_wp2_with fail
      go_ret2
      exact⟨v,_,rfl,HO.out _,E⟩
    ·have z1:decide (-2147483648<=v)=true:=by simpa using c1
     have z2:decide (v<=2147483647)=false:=by simp;omega
     clear c1 c2;go_enter Tryz.func51,Tryz.ntmps51;go_wp2_with fail;refine(AT.out _).mono ?_;rintro e w1 ⟨rfl,E⟩;have g1:=g.below E;go_wp2_with fail;refine(IT.out _ g1).mono ?_;rintro e w2 ⟨rfl,E2⟩;have E:=E.trans (E2.mono E.size);cases bb<;>
     ·go_wp2_with fail
      go_ret2
      exact⟨v,_,rfl,HO.out _,E⟩
 ·have hv: ∀v,Lib.atoiAll s≠ .ok v:=fun v h=>hv ⟨v,h⟩
  have AT:=hid (atoi_bad s hl hv);have HO:=hid (num_bad hv);clear hv hl;go_enter Tryz.func51,Tryz.ntmps51;go_wp2_with fail;refine(AT.out _ g).mono ?_;rintro e w1 ⟨n,tp,p,rfl,E⟩;go_wp2_with fail
  go_ret2
  exact⟨n,_,rfl,HO.out _,E⟩
def optX(o:Option Nat):Int × Int:=match o with
 |some n=>(n,0)
 |none=>(0,90)
theorem regX_hit{s:Tx}{n:Nat}(h:n<15)(e:regX n=s):optX (regOfX s)=((n:Int),0):=by subst e;rw[regOfX_regX h];rfl
theorem regX_miss{s:Tx}(h: ∀m,m<15->regX m≠s):optX (regOfX s)=(0,90):=by
 cases hr:regOfX s with
 |none=>rfl
 |some n=>obtain⟨h1,h2⟩:=regOfX_some hr;exact absurd h2.symm (h n h1)
theorem ret_ii{a b c d:Int}(h:a=c)(h':b=d):Ending.returned (.tuple #[.int .i64 a,.int .i64 b])= .returned (.tuple #[.int .i64 c,.int .i64 d]):=by rw[h,h']
end Go.Proofs.YtkbbgjloifmmbaaGreatDoor
namespace Go.Proofs.YtkbbgjloifmmbaaGreatDoor
open Go.RowKit Go.Sort
abbrev St(w w':World)(rb:Nat):Prop:=Step w w' (Option.some ⟨rb,0,none⟩) (Option.some ⟨rb,0,none⟩)
theorem St.refl(w:World)(rb:Nat):St w w rb:=step_below (Below.refl _ _)
theorem QW.below'{w w':World}(h:QW w w'):Below w.heap.size w w':=by obtain⟨n,rfl⟩:=h;exact below_drewN _ _
def RetC{α:Type}(w:World)(B rb:Nat)(arch:Int)(s:Tx)(a:Option Addr)(c:Nat)(L:List Tok)(p:PR α)(V:α->Ending->World->Prop)(e:Ending)(w':World):Prop:=
 St w w' rb/\((∃l,p= .error l/\e=PanC (stopAt s.length l))\/(∃x k,p= .ok (x,L.drop k)/\V x e w'/\Rdr w' B rb arch s a c L k))
section
variable {α:Type} {w w':World} {B rb:Nat} {arch:Int} {s:Tx} {a:Option Addr} {c:Nat} {L:List Tok} {p:PR α} {V:α->Ending->World->Prop} {e:Ending}
theorem RetC.okay(h:RetC w B rb arch s a c L p V e w'){x:α}{r:List Tok}(hp:p= .ok (x,r)): ∃k,r=L.drop k/\V x e w'/\Rdr w' B rb arch s a c L k/\St w w' rb:=by
 obtain⟨h1,⟨l,h2,h3⟩|⟨y,k,h2,h3,h4⟩⟩:=h
 ·rw[hp]at h2;cases h2
 ·rw[hp]at h2;cases h2;exact⟨k,rfl,h3,h4,h1⟩
theorem RetC.err(h:RetC w B rb arch s a c L p V e w'){l:List Tok}(hp:p= .error l):e=PanC (stopAt s.length l)/\St w w' rb:=by
 obtain⟨h1,⟨l,h2,h3⟩|⟨y,k,h2,h3,h4⟩⟩:=h
 ·rw[hp]at h2;cases h2;exact⟨h3,h1⟩
 ·rw[hp]at h2;cases h2
end
def unitR(p:Except (List Tok) (List Tok)):PR Unit:=match p with
 | .ok r=>.ok ((),r)
 | .error e=>.error e
def VU(x:Unit)(e:Ending)(w:World):Prop:=e= .returned (.tuple #[])
theorem drop_at{L:List Tok}{k:Nat}{t:Tok}(h:L[k]? =some t):L.drop k=t::L.drop (k+1):=by
 obtain⟨hlt,rfl⟩:=List.getElem?_eq_some_iff.1 h;exact List.drop_eq_getElem_cons hlt
theorem condTake{w:World}{B rb:Nat}{arch:Int}{s:Tx}{a:Option Addr}{c:Nat}{L:List Tok}{k:Nat}(R:Rdr w B rb arch s a c L k)(u:Tx)(hu:u≠[]):
 Calls Tryz.prog 237 #[.pointer (some ⟨rb,0,none⟩),.string (tx u)] w (RetC w B rb arch s a c L (unitR (takeR u (L.drop k))) VU):=by
 have PK:=hid (condPeek R 0 (by omega));rw[Nat.add_zero,show((0:Nat):Int)=0 by rfl]at PK;have FL:=hid (fun(w:World) (R:Rdr w B rb arch s a c L k)=>condFail R);have HR:=hid R
 by_cases hh: ∃t,L[k]? =some t/\t.1=u
 ·obtain⟨t,ht,rfl⟩:=hh
  have hp:unitR (takeR t.1 (L.drop k))= .ok ((),L.drop (k+1)):=by rw[drop_at ht,takeR_cons,if_pos rfl];rfl
  have hlt:=(List.getElem?_eq_some_iff.1 ht).1;rw[hp];rw[headS_at ht]at PK;have z:((tx t.1).toList==(tx t.1).toList)=true:=by simp
  have HL:=hid hlt;clear hp ht hlt hu R;generalize t.1=u at*;go_enter Tryz.func237,Tryz.ntmps237;go_wp2_with fail;refine PK.out.mono ?_;rintro e w1 ⟨rfl,q⟩;have R1:=HR.out.below q.below';obtain⟨c0,c1,c2,c3,f3,lt⟩:=R1.cells;obtain⟨R2,S2⟩:=R1.next HL.out;have S:=(step_below (bw:=rb) q.below').trans S2;have HS:=hid S;have H2:=hid R2;have hb:k<=262144:=by have:=R1.le;have:=R1.sm;omega
  clear R1 R2 S S2 q;go_wp2_with fail
  go_end0
  exact⟨HS.out,.inr ⟨(),k+1,rfl,rfl,H2.out⟩⟩
 ·have hne:headS (L.drop k)≠u:=by
   intro e
   by_cases hk:k<L.length
   ·exact hh ⟨_,List.getElem?_eq_getElem hk,by rw[<-e,headS_at (List.getElem?_eq_getElem hk)]⟩
   ·rw[headS_no (by omega)]at e;exact hu e.symm
  have hp:unitR (takeR u (L.drop k))= .error (L.drop k):=by
   by_cases hk:k<L.length
   ·have ht:=List.getElem?_eq_getElem hk
    rw[drop_at ht,takeR_cons,if_neg (fun e=>hh ⟨_,ht,e⟩)];rfl
   ·rw[List.drop_eq_nil_of_le (by omega)];rfl
  rw[hp];have z:((tx (headS (L.drop k))).toList==(tx u).toList)=false:=tx_eq_false hne;generalize headS (L.drop k)=v at*;clear hp hne hu R hh;go_enter Tryz.func237,Tryz.ntmps237;go_wp2_with fail;refine PK.out.mono ?_;rintro e w1 ⟨rfl,q⟩;have R1:=HR.out.below q.below';have FL:=hid (FL.out _ R1);have Q:=hid q;clear R1 q;go_wp2_with fail;refine FL.out.mono ?_;rintro e w2 ⟨rfl,q2⟩;unfold PanC;go_wp2_with fail;exact⟨rfl,(step_below (bw:=rb) Q.out.below').trans (step_below q2.below'),.inl ⟨_,rfl,rfl⟩⟩
def VI(x:Int)(e:Ending)(w:World):Prop:=e= .returned (.int .i64 x)
def VS(x:Tx)(e:Ending)(w:World):Prop:=e= .returned (.string (tx x))/\x.length<=262144
theorem intR_hit{a b:Int}{L:List Tok}{k:Nat}{n:Int}(h:numR (headS (L.drop k))=some n)(h1:a<=n)(h2:n<=b):k<L.length/\intR a b (L.drop k)= .ok (n,L.drop (k+1)):=by
 by_cases hk:k<L.length
 ·have ht:=List.getElem?_eq_getElem hk
  rw[headS_at ht]at h;refine⟨hk,?_⟩;rw[drop_at ht,intR_cons,h];exact if_pos ⟨h1,h2⟩
 ·rw[headS_no (by omega)]at h
  rw[show numR []=none by decide+kernel]at h;cases h
theorem intR_miss{a b:Int}{L:List Tok}{k:Nat}(h: ∀n,numR (headS (L.drop k))=some n-> ¬(a<=n/\n<=b)):intR a b (L.drop k)= .error (L.drop k):=by
 by_cases hk:k<L.length
 ·have ht:=List.getElem?_eq_getElem hk
  rw[headS_at ht]at h;rw[drop_at ht,intR_cons];cases hn:numR (L[k]).1 with
  |none=>rfl
  |some n=>exact if_neg (h n hn)
 ·rw[List.drop_eq_nil_of_le (by omega)];rfl
theorem headS_short{L:List Tok}{s:Tx}(hL: ∀t∈L,t.1.length<=s.length)(k:Nat):(headS (L.drop k)).length<=s.length:=by
 by_cases hk:k<L.length
 ·have ht:=List.getElem?_eq_getElem hk
  rw[headS_at ht];exact hL _ (List.getElem_mem hk)
 ·rw[headS_no (by omega)];simp
theorem condInt{w:World}{B rb:Nat}{arch:Int}{s:Tx}{a:Option Addr}{c:Nat}{L:List Tok}{k:Nat}(R:Rdr w B rb arch s a c L k)(hsh: ∀t∈L,t.1.length<=s.length)(lo hi:Int)(h1: -2147483648<=lo)(h2:hi<=2147483647)(g:Gl w):
 Calls Tryz.prog 351 #[.pointer (some ⟨rb,0,none⟩),.int .i64 lo,.int .i64 hi] w (RetC w B rb arch s a c L (intR lo hi (L.drop k)) VI):=by
 have PK:=hid (fun(w:World) (R:Rdr w B rb arch s a c L k)=>condPeek R 0 (by omega));have FL:=hid (fun(w:World) (R:Rdr w B rb arch s a c L k)=>condFail R);have HR:=hid R;have hul:=headS_short hsh k;have hsl:=R.sl;have IH:=hid (fun n=>intR_hit (a:=lo) (b:=hi) (L:=L) (k:=k) (n:=n));have IM:=hid (intR_miss (a:=lo) (b:=hi) (L:=L) (k:=k));rw[Nat.add_zero,show((0:Nat):Int)=0 by rfl]at PK;generalize intR lo hi (L.drop k)=p at*;generalize headS (L.drop k)=u at*;clear hsh R
 by_cases hv: ∃v,Lib.atoiAll u= .ok v
 ·obtain⟨v,hv⟩:=hv
  obtain⟨b1,b2⟩:=Lib.atoiAll_bounds hv;have AT:=hid (atoi_ok u (by omega) v hv);have IT:=hid (fun(w:World) (g:Gl w)=>itoa_any v b1 b2 w g);have hn:=numR_ok hv;obtain⟨x,hx⟩: ∃x,Lib.itoa v=x:=⟨_,rfl⟩;rw[hx]at hn IT
  by_cases hok:x=u/\lo<=v/\v<=hi
  ·obtain⟨rfl,l1,l2⟩:=hok
   rw[if_pos ⟨rfl,n32_iff.2 ⟨by omega,by omega⟩⟩]at hn;obtain⟨hk,hp⟩:=IH.out v hn l1 l2;subst hp;have z:((tx x).toList==(tx x).toList)=true:=by simp
   have z1:decide (v<lo)=false:=by simp;omega
   have z2:decide (hi<v)=false:=by simp;omega
   have HK:=hid hk;clear hn hv b1 b2 hx l1 l2 hk IH IM hul hsl h1 h2;go_enter Tryz.func351,Tryz.ntmps351;go_wp2_with fail;refine(PK.out _ HR.out).mono ?_;rintro e w1 ⟨rfl,q⟩;have E:=q.below';clear q;go_wp2_with fail;refine(AT.out _).mono ?_;rintro e w2 ⟨rfl,E2⟩;have E:=E.trans (E2.mono E.size);have g2:=g.below E;go_wp2_with fail;refine(IT.out _ g2).mono ?_;rintro e w3 ⟨rfl,E3⟩;have E:=E.trans (E3.mono E.size);go_wp2_with fail;refine(PK.out _ (HR.out.below E)).mono ?_;rintro e w4 ⟨rfl,q⟩;have E:=E.trans (q.below'.mono E.size);have R1:=HR.out.below E;obtain⟨c0,c1,c2,c3,f3,lt⟩:=R1.cells;obtain⟨R2,S2⟩:=R1.next HK.out;have HS:=hid ((step_below (bw:=rb) E).trans S2);have H2:=hid R2;have hb:k<=262144:=by have:=R1.le;have:=R1.sm;omega
   clear R1 R2 S2 q E E2 E3 g2;go_wp2_with fail;go_ret;exact⟨HS.out,.inr ⟨v,k+1,rfl,rfl,H2.out⟩⟩
  ·have hp:=IM.out (fun n hn' hb=>by
    rw[hn]at hn'
    split at hn'
    ·rename_i hh;cases hn';exact hok ⟨hh.1,hb⟩
    ·cases hn')
   subst hp
   have hc:((tx x).toList==(tx u).toList)=false\/(((tx x).toList==(tx u).toList)=true/\decide (v<lo)=true)\/(((tx x).toList==(tx u).toList)=true/\decide (v<lo)=false/\decide (hi<v)=true):=by
    by_cases e:x=u
    ·right
     have z:((tx x).toList==(tx u).toList)=true:=by rw[tx_beq];simpa using e
     by_cases l1:lo<=v
     ·right
      refine⟨z,by simp;omega,?_⟩;simp only[decide_eq_true_eq];rcases Int.lt_or_le hi v with h|h
      ·exact h
      ·exact absurd ⟨e,l1,h⟩ hok
     ·left;exact⟨z,by simp;omega⟩
    ·exact .inl (tx_eq_false e)
   clear hn hv b1 b2 hx IH IM hul hsl h1 h2 hok;rcases hc with z|⟨z,z1⟩|⟨z,z1,z2⟩
   all_goals
    go_enter Tryz.func351,Tryz.ntmps351;go_wp2_with fail;refine(PK.out _ HR.out).mono ?_;rintro e w1 ⟨rfl,q⟩;have E:=q.below';clear q;go_wp2_with fail;refine(AT.out _).mono ?_;rintro e w2 ⟨rfl,E2⟩;have E:=E.trans (E2.mono E.size);have g2:=g.below E;go_wp2_with fail;refine(IT.out _ g2).mono ?_;rintro e w3 ⟨rfl,E3⟩;have E:=E.trans (E3.mono E.size);go_wp2_with fail;refine(PK.out _ (HR.out.below E)).mono ?_;rintro e w4 ⟨rfl,q⟩;have E:=E.trans (q.below'.mono E.size);have FL:=hid (FL.out _ (HR.out.below E));have HE:=hid E;clear q E E2 E3 g2;go_wp2_with fail;refine FL.out.mono ?_;rintro e w5 ⟨rfl,q⟩;unfold PanC;go_wp2_with fail;exact⟨rfl,(step_below (bw:=rb) HE.out).trans (step_below q.below'),.inl ⟨_,rfl,rfl⟩⟩
 ·have hv: ∀v,Lib.atoiAll u≠ .ok v:=fun v h=>hv ⟨v,h⟩
  have AT:=hid (atoi_bad u (by omega) hv);have hp:=IM.out (fun n hn'=>by rw[numR_bad hv]at hn';cases hn');subst hp;clear hv IH IM hul hsl h1 h2;go_enter Tryz.func351,Tryz.ntmps351;go_wp2_with fail;refine(PK.out _ HR.out).mono ?_;rintro e w1 ⟨rfl,q⟩;have E:=q.below';have g1:=g.below E;clear q;go_wp2_with fail;refine(AT.out _ g1).mono ?_;rintro e w2 ⟨n,tp,pp,rfl,E2⟩;have E:=E.trans (E2.mono E.size);have FL:=hid (FL.out _ (HR.out.below E));have HE:=hid E;clear E E2 g1;go_wp2_with fail;refine FL.out.mono ?_;rintro e w5 ⟨rfl,q⟩;unfold PanC;go_wp2_with fail;exact⟨rfl,(step_below (bw:=rb) HE.out).trans (step_below q.below'),.inl ⟨_,rfl,rfl⟩⟩
theorem locR_hit{L:List Tok}{k:Nat}(h:nameB (headS (L.drop k))=true):k<L.length/\locR (L.drop k)= .ok (headS (L.drop k),L.drop (k+1)):=by
 by_cases hk:k<L.length
 ·have ht:=List.getElem?_eq_getElem hk
  rw[headS_at ht]at h⊢;exact⟨hk,by rw[drop_at ht,locR_cons,if_pos h]⟩
 ·rw[headS_no (by omega)]at h;cases h
theorem locR_miss{L:List Tok}{k:Nat}(h:nameB (headS (L.drop k))=false):locR (L.drop k)= .error (L.drop k):=by
 by_cases hk:k<L.length
 ·have ht:=List.getElem?_eq_getElem hk
  rw[headS_at ht]at h;rw[drop_at ht,locR_cons,if_neg (by rw[h];decide)]
 ·rw[List.drop_eq_nil_of_le (by omega)];rfl
theorem condLoc{w:World}{B rb:Nat}{arch:Int}{s:Tx}{a:Option Addr}{c:Nat}{L:List Tok}{k:Nat}(R:Rdr w B rb arch s a c L k)(hsh: ∀t∈L,t.1.length<=s.length):
 Calls Tryz.prog 356 #[.pointer (some ⟨rb,0,none⟩)] w (RetC w B rb arch s a c L (locR (L.drop k)) VS):=by
 have PK:=hid (fun(w:World) (R:Rdr w B rb arch s a c L k)=>condPeek R 0 (by omega));have FL:=hid (fun(w:World) (R:Rdr w B rb arch s a c L k)=>condFail R);have HR:=hid R;have hul:=headS_short hsh k;have hsl:=R.sl;rw[Nat.add_zero,show((0:Nat):Int)=0 by rfl]at PK;have NM:=hid (fun w=>condNamed (headS (L.drop k)) (by omega) w);cases hb:nameB (headS (L.drop k))with
 | true=>
   rw[hb]at NM;obtain⟨hk,hp⟩:=locR_hit hb;rw[hp];obtain⟨t,ht⟩: ∃t,L[k]? =some t:=⟨_,List.getElem?_eq_getElem hk⟩;rw[headS_at ht]at*;have HT:=hid ht;have HK:=hid hk;have HU:=hid (show t.1.length<=262144 by omega);clear hb hp hk ht hul hsl hsh R;go_enter Tryz.func356,Tryz.ntmps356;go_wp2_with fail;refine(PK.out _ HR.out).mono ?_;rintro e w1 ⟨rfl,q⟩;have E:=q.below';have R1:=HR.out.below E;obtain⟨c0,c1,c2,c3,f3,lt⟩:=R1.cells;obtain⟨R2,S2⟩:=R1.next HK.out;have HS:=hid ((step_below (bw:=rb) E).trans S2);have hb:k<=262144:=by have:=R1.le;have:=R1.sm;omega
   have H2:=hid R2;clear R1 R2 S2 q E
   go_upto_region 4 with(first|(go_at_call 322;refine(NM.out _).mono ?_;rintro e w' ⟨rfl,rfl⟩)|fail)
   generalize w1.setCell ⟨rb,3,none⟩ (.int .i64 ((k:Int)+1))=w2 at*;clear c0 c1 c2 c3 f3 lt;obtain⟨c0,c1,c2,c3,f3,lt⟩:=H2.out.cells;obtain⟨d0,d1⟩:=H2.out.toks.tok HT.out;have ix:=H2.out.toks.idx tokl cTok_len k HK.out c;rw[show((k+1:Nat):Int)=(k:Int)+1 by omega]at c3;have ix2:=ix;rw[show(k:Int)=(k:Int)+1-1 by omega]at ix2
   go_big_region
   all_goals go_wp2_with fail
   all_goals go_ret
   all_goals exact⟨HS.out.trans (step_below blN),.inr ⟨t.1,k+1,rfl,⟨rfl,HU.out⟩,H2.out.below blN⟩⟩
 | false=>
   rw[hb]at NM;rw[locR_miss hb];generalize headS (L.drop k)=u at*;clear hb hul hsl hsh R;go_enter Tryz.func356,Tryz.ntmps356;go_wp2_with fail;refine(PK.out _ HR.out).mono ?_;rintro e w1 ⟨rfl,q⟩;have FL:=hid (FL.out _ (HR.out.below q.below'));have Q:=hid q;clear q
   go_wp2_with (go_at_call 322;refine(NM.out _).mono ?_;rintro e w' ⟨rfl,rfl⟩)
   refine FL.out.mono ?_;rintro e w5 ⟨rfl,q⟩;unfold PanC;go_wp2_with fail;exact⟨rfl,(step_below (bw:=rb) Q.out.below').trans (step_below q.below'),.inl ⟨_,rfl,rfl⟩⟩
def optA(o:Option Nat):Int:=match o with
 |some n=>n
 |none=> -1
theorem regA_hit{arch:Int}{s:Tx}{n:Nat}(h:(n:Int)<regsN arch)(hm: ∀m,m<n->regA arch m≠s)(e:regA arch n=s):regOfA arch s=some n:=by
 unfold regOfA;have hl:n<(regsN arch).toNat:=by omega
 rw[List.find?_range_eq_some];exact⟨by simpa using e,List.mem_range.2 hl,fun j hj=>by simpa using hm j hj⟩
theorem regA_miss{arch:Int}{s:Tx}{n:Nat}(hn:(n:Int)=regsN arch)(hm: ∀m,m<n->regA arch m≠s):regOfA arch s=none:=by
 unfold regOfA;rw[List.find?_eq_none];intro m hmm;have:=List.mem_range.1 hmm;simpa using hm m (by omega)
theorem condRegOf(arch:Int)(s:Tx)(w:World):Calls Tryz.prog 357 #[.int .i64 arch,.string (tx s)] w (Ret w (.int .i64 (optA (regOfA arch s)))):=by
 obtain⟨N,hN⟩: ∃N:Nat,regsN arch=N:=⟨(regsN arch).toNat,by have:=regsN_bd arch;omega⟩;have hb:=regsN_bd arch;have CR:=hid (condRegs arch);have RG:=hid (fun(k:Nat) (hk:(k:Int)<regsN arch) (w:World)=>condRegister arch k hk w);have HH:=hid (fun(n:Nat) (h:n<N)=>regA_hit (arch:=arch) (s:=s) (n:=n) (by omega));have HM:=hid (fun(hm: ∀m,m<N->regA arch m≠s)=>regA_miss (arch:=arch) (s:=s) (n:=N) hN.symm hm);have HB:=hid (show ∀k:Nat,k<N->(k:Int)<regsN arch from fun k hk=>by omega);rw[hN]at CR;generalize regOfA arch s=o at*;have hNb:N<=32:=by omega
 clear hN hb;go_enter Tryz.func357,Tryz.ntmps357
 go_wp2_with (go_at_call 323;refine(CR.out _).mono ?_;rintro e w' ⟨rfl,rfl⟩)
 go_loopw [8] (fun i wr=> ∃k:Nat,k<=N/\i= .int .i64 k/\Below w.heap.size w wr/\Hid (∀m,m<k->regA arch m≠s)) (fun i _=>N-(intOf i).toNat)
 case atStart=>exact⟨0,by omega,rfl,blN,fun m hm=>absurd hm (Nat.not_lt_zero m)⟩
 case round=>
  obtain⟨k,hk,rfl,E,HK⟩:=hrel
  by_cases hlt:k<N
  ·have RC:=hid (RG.out k (HB.out k hlt))
   by_cases he:regA arch k=s
   ·have hz:((tx (regA arch k)).toList==(tx s).toList)=true:=by rw[tx_beq];simpa using he
    have HO:=hid (HH.out k hlt HK.out he);clear he;generalize regA arch k=u at*;go_wp2_with fail;refine(RC.out _).mono ?_;rintro e w1 ⟨rfl,E1⟩;have E:=E.trans (E1.mono E.size);go_wp2_with fail;go_ret;exact⟨ret_int (by rw[HO.out];rfl),E⟩
   ·have hz:((tx (regA arch k)).toList==(tx s).toList)=false:=tx_eq_false he
    have HK2:=hid (show ∀m,m<k+1->regA arch m≠s from fun m hm=>by
     rcases Nat.lt_succ_iff_lt_or_eq.1 hm with h|h
     ·exact HK.out m h
     ·subst h;exact he)
    clear he;generalize regA arch k=u at*;go_wp2_with fail;refine(RC.out _).mono ?_;rintro e w1 ⟨rfl,E1⟩;have E:=E.trans (E1.mono E.size);go_wp2_with fail
    go_roundw
    case rel=>exact⟨k+1,by omega,by go_num,E,HK2⟩
    case measure=>simp[intOf];omega
  ·obtain rfl:k=N:=by omega
   have HO:=hid (HM.out HK.out);go_wp2_with fail;go_ret;exact⟨ret_int (by rw[HO.out];rfl),E⟩
def VT(t:Th)(e:Ending)(w:World):Prop:=e= .returned (vTh t)/\t.loc.length<=262144
theorem Rdr.put{w:World}{B rb:Nat}{arch:Int}{s:Tx}{a:Option Addr}{c:Nat}{L:List Tok}{k:Nat}(h:Rdr w B rb arch s a c L k){b:Nat}(hb:b≠rb)(ha:L≠[]->bk a≠b)(j:Nat)(v:Value):Rdr (w.setCell ⟨b,j,none⟩ v) B rb arch s a c L k:=by
 have hs:Step w (w.setCell ⟨b,j,none⟩ v) (Option.some ⟨b,0,none⟩) (Option.some ⟨b,0,none⟩):=⟨⟨rfl,rfl,rfl,by simp,fun k hk hne=>Below.heap_setCell _ _ _ _ (fun e=>hne (by simp[e]))⟩,.inl rfl⟩;refine⟨Own.kept h.own hs.grown (.inr ?_),Els.step cTok_len (by omega) h.toks hs ha,h.ne,h.le,h.sm,h.sl⟩;simp;exact fun e=>hb e.symm
theorem St.put{w w1:World}{rb:Nat}(h:St w w1 rb){b:Nat}(hb:w.heap.size<=b)(j:Nat)(v:Value):St w (w1.setCell ⟨b,j,none⟩ v) rb:=
 ⟨⟨h.grown.os,h.grown.tape,h.grown.output,by simpa using h.grown.size,fun k hk hne=>by rw[Below.heap_setCell _ _ _ _ (by simp;omega)];exact h.grown.block k hk hne⟩,.inl rfl⟩
theorem St.new{w w1:World}{rb:Nat}(h:St w w1 rb)(o:Obj):St w (w1.alloc o) rb:=h.trans (step_below (al _ _))
abbrev zT0:Obj:=.cells #[.int .i64 0,.int .i64 0,.string ⟨#[]⟩] 25
theorem thing_cells{w w1:World}{rb:Nat}{us:Array Value}{T:TypeId}(hs:St (w.alloc (.cells us T)) w1 rb)(hrb:rb<w.heap.size):BxL w1 w.heap.size us.toList:=(BxL.new w us T).step hs (by omega)
theorem frz_step{w w1:World}{rb b:Nat}(hs:St w w1 rb)(hb:b<w.heap.size)(hne:b≠rb)(k:Nat):w1.frozen? ⟨b,k,none⟩=w.frozen? ⟨b,k,none⟩:=by
 unfold World.frozen?;rw[hs.grown.block b hb (by simpa using hne)]
theorem frz_new(w:World)(us:Array Value)(T:TypeId)(k:Nat):(w.alloc (.cells us T)).frozen? ⟨w.heap.size,k,none⟩=false:=by
 have hh:=heap_alloc_new w (.cells us T);unfold World.frozen?;simp only[hh];simp
theorem thingR_1{arch:Int}{L:List Tok}{k:Nat}(h:headS (L.drop k)=[91]):thingR arch (L.drop k)=match locR (L.drop (k+1))with
 | .error e=>.error e
 | .ok (x,r)=>match takeR [93] r with
   | .error e=>.error e
   | .ok r=>.ok (⟨-1,0,x⟩,r):=by
 unfold thingR;rw[if_pos h,List.tail_drop];rfl
theorem thingR_2{arch:Int}{L:List Tok}{k:Nat}(h:headS (L.drop k)≠[91])(h2:numHead (headS (L.drop k))=true):thingR arch (L.drop k)=match intR 0 15 (L.drop k)with
 | .error e=>.error e
 | .ok (n,r)=>match takeR [58] r with
   | .error e=>.error e
   | .ok r=>match regOfA arch (headS r)with
     |none=>.error r
     |some k=>.ok (⟨n,k,[]⟩,r.tail):=by
 unfold thingR;rw[if_neg h,if_pos h2];rfl
theorem thingR_3{arch:Int}{L:List Tok}{k:Nat}(h:headS (L.drop k)≠[91])(h2:numHead (headS (L.drop k))=false):thingR arch (L.drop k)=match locR (L.drop k)with
 | .error e=>.error e
 | .ok (x,r)=>.ok (⟨-1,0,x⟩,r):=by
 unfold thingR;rw[if_neg h,if_neg (by rw[h2];decide)];rfl
theorem head_lt{L:List Tok}{k:Nat}(h:headS (L.drop k)≠[]):k<L.length:=by
 rcases Nat.lt_or_ge k L.length with h'|h'
 ·exact h'
 ·exact absurd (headS_no h') h
def PeekC(rb:Nat)(w:World)(u:Tx):Prop:=Calls Tryz.prog 236 #[.pointer (some ⟨rb,0,none⟩),.int .i64 0] w (RetQ w (.string (tx u)))
theorem peek0{w:World}{B rb:Nat}{arch:Int}{s:Tx}{a:Option Addr}{c:Nat}{L:List Tok}{k:Nat}(R:Rdr w B rb arch s a c L k):PeekC rb w (headS (L.drop k)):=by
 have:=condPeek R 0 (by omega);rw[Nat.add_zero]at this;exact this
theorem condThing_1{w:World}{B rb:Nat}{arch:Int}{s:Tx}{a:Option Addr}{c:Nat}{L:List Tok}{k:Nat}(R:Rdr w B rb arch s a c L k)(hsh: ∀t∈L,t.1.length<=s.length)(h91:headS (L.drop k)=[91]):
 Calls Tryz.prog 350 #[.pointer (some ⟨rb,0,none⟩)] w (RetC w B rb arch s a c L (thingR arch (L.drop k)) VT):=by
 obtain⟨-, -, -, -, -, hrb⟩:=R.cells;have hk:=head_lt (L:=L) (k:=k) (by rw[h91];decide);have htk:L≠[]->bk a<w.heap.size:=fun h=>R.toks.lt cTok_len (by omega) h
 have R0:=R.below (al w zT0);have PK:=hid (peek0 R0);rw[h91]at PK;unfold PeekC at PK;have LC:=hid (fun(w:World) (R:Rdr w B rb arch s a c L (k+1))=>condLoc R hsh);have TK:=hid (fun(w:World) (k':Nat) (R:Rdr w B rb arch s a c L k')=>condTake R [93] (by decide));rw[thingR_1 h91];have HK:=hid hk;have HR:=hid R0;have z:((tx [91]).toList==[91])=true:=by rw[tx_toList];rfl
 have hb:k<=262144:=by have:=R.le;have:=R.sm;omega
 clear hsh h91 R R0 hk;cases hloc:locR (L.drop (k+1))with
 | error l=>
   rw[hloc]at LC;go_enter Tryz.func350,Tryz.ntmps350;go_wp2_with fail;refine PK.out.mono ?_;rintro e w1 ⟨rfl,q⟩;have R1:=HR.out.below q.below';obtain⟨c0,c1,c2,c3,f3,lt⟩:=R1.cells;obtain⟨R2,S2⟩:=R1.next HK.out;have S:=hid ((St.new (St.refl w rb) zT0).trans ((step_below (bw:=rb) q.below').trans S2));have LC:=hid (LC.out _ R2);clear R1 R2 S2 q;go_wp2_with fail;refine LC.out.mono ?_;rintro e w2 h;obtain⟨rfl,S3⟩:=h.err rfl;unfold PanC;go_wp2_with fail;exact⟨rfl,S.out.trans S3,.inl ⟨_,rfl,rfl⟩⟩
 | ok p=>
   obtain⟨x,r⟩:=p;rw[hloc]at LC;simp only;cases htk2:takeR [93] r with
   | error l=>
     go_enter Tryz.func350,Tryz.ntmps350;go_wp2_with fail;refine PK.out.mono ?_;rintro e w1 ⟨rfl,q⟩;have R1:=HR.out.below q.below';obtain⟨c0,c1,c2,c3,f3,lt⟩:=R1.cells;obtain⟨R2,S2⟩:=R1.next HK.out;have S:=hid ((St.new (St.refl w rb) zT0).trans ((step_below (bw:=rb) q.below').trans S2));have LC:=hid (LC.out _ R2);clear R1 R2 S2 q;go_wp2_with fail;refine LC.out.mono ?_;rintro e w2 h;obtain⟨k2,rfl,⟨rfl,hx⟩,R3,S3⟩:=h.okay rfl;have TC:=hid (TK.out _ k2 (R3.below (al _ (.cells #[.int .i64 (-1),.int .i64 0,.string (tx x)] 25))));have S:=hid (St.new (S.out.trans S3) (.cells #[.int .i64 (-1),.int .i64 0,.string (tx x)] 25));have HT:=hid htk2;clear hx R3 S3 h htk2;go_wp2_with fail;refine TC.out.mono ?_;rintro e w3 h;obtain⟨rfl,S4⟩:=h.err (show _=Except.error l by rw[HT.out];rfl);unfold PanC;go_wp2_with fail;exact⟨rfl,S.out.trans S4,.inl ⟨_,rfl,rfl⟩⟩
   | ok r2=>
     go_enter Tryz.func350,Tryz.ntmps350;go_wp2_with fail;refine PK.out.mono ?_;rintro e w1 ⟨rfl,q⟩;have R1:=HR.out.below q.below';obtain⟨c0,c1,c2,c3,f3,lt⟩:=R1.cells;obtain⟨R2,S2⟩:=R1.next HK.out;have S:=hid ((step_below (bw:=rb) q.below').trans S2);have LC:=hid (LC.out _ R2);clear R1 R2 S2 q;go_wp2_with fail;refine LC.out.mono ?_;rintro e w2 h;obtain⟨k2,rfl,⟨rfl,hx⟩,R3,S3⟩:=h.okay rfl;have TC:=hid (TK.out _ k2 (R3.below (al _ (.cells #[.int .i64 (-1),.int .i64 0,.string (tx x)] 25))));have S:=hid (St.new (S.out.trans S3) (.cells #[.int .i64 (-1),.int .i64 0,.string (tx x)] 25));have HT:=hid htk2;have HX:=hid hx;have hrb2:rb<w2.heap.size:=R3.cells.2.2.2.2.2;have hs2:=S.out.grown.size;clear hx R3 S3 h htk2;go_wp2_with fail;refine TC.out.mono ?_;rintro e w3 h;obtain⟨k3,rfl,hv,R5,S4⟩:=h.okay (show _=Except.ok ((),r2) by rw[HT.out];rfl);unfold VU at hv;subst hv;have b4:=thing_cells S4 hrb2;have b2:=thing_cells (S.out.trans S4) hrb;have fz:=fun k=>(frz_step (S.out.trans S4) (b:=w.heap.size) (by simp) (by omega) k).trans (frz_new w _ _ k)
     have q0:=b4.get 0 _ rfl;have q1:=b4.get 1 _ rfl;have q2:=b4.get 2 _ rfl;have p0:=b2.get 0 _ rfl;have p1:=b2.get 1 _ rfl;have p2:=b2.get 2 _ rfl;have HS:=hid ((St.new (St.refl w rb) zT0).trans (S.out.trans S4));have HR5:=hid R5;have hne:w.heap.size≠rb:=by omega
     have HTK:=hid (show L≠[]->bk a≠w.heap.size from fun h=>by have:=htk h;omega);clear S4 R5 h b4 b2 hs2 htk;go_wp2_with fail;exact bodyPost_ret (by simp[results,Tryz.results350,go_sem,p0,p1,p2]) rfl ⟨St.put (St.put (St.put HS.out (Nat.le_refl _) _ _) (Nat.le_refl _) _ _) (Nat.le_refl _) _ _,.inr ⟨⟨-1,0,x⟩,k3,rfl,⟨rfl,HX.out⟩,((HR5.out.put hne HTK.out _ _).put hne HTK.out _ _).put hne HTK.out _ _⟩⟩
theorem condThing_3{w:World}{B rb:Nat}{arch:Int}{s:Tx}{a:Option Addr}{c:Nat}{L:List Tok}{k:Nat}(R:Rdr w B rb arch s a c L k)(hsh: ∀t∈L,t.1.length<=s.length)(h91:headS (L.drop k)≠[91])(hn:numHead (headS (L.drop k))=false):
 Calls Tryz.prog 350 #[.pointer (some ⟨rb,0,none⟩)] w (RetC w B rb arch s a c L (thingR arch (L.drop k)) VT):=by
 obtain⟨-, -, -, -, -, hrb⟩:=R.cells;have htk:L≠[]->bk a<w.heap.size:=fun h=>R.toks.lt cTok_len (by omega) h
 have R0:=R.below (al w zT0);have PK:=hid (peek0 R0);unfold PeekC at PK;have LC:=hid (fun(w:World) (R:Rdr w B rb arch s a c L k)=>condLoc R hsh);rw[thingR_3 h91 hn];have HR:=hid R0;generalize headS (L.drop k)=u at*;have z:((tx u).toList==[91])=false:=tx_ne _ _ h91;clear hsh h91 R R0
 have hc:((tx u).toList==[])=true\/ ∃d,(((tx u).toList==[])=false/\(∀w,(Instr.index 9 (.string (tx u)) (.int .i64 0)).run Tryz.prog w= .ok (.int .u8 d.toNat) w)/\digitC d=false/\((d.toNat:Int)==45)=false):=by
  cases u with
  |nil=>left;rw[tx_toList];rfl
  | cons d r=>
    right
    unfold numHead at hn;rw[Bool.or_eq_false_iff]at hn;exact⟨d,tx_ne _ _ (by simp),run_ixz (d::r) d rfl,hn.1,by simpa using u8_ne d 45 (by simpa using hn.2)⟩
 clear hn;cases hloc:locR (L.drop k)with
 | error l=>
   rw[hloc]at LC;simp only;rcases hc with z2|⟨d,z2,ix,hd,z3⟩
   ·have z2e:(tx u).toList.isEmpty=true:=by rw[<-List.beq_nil_eq];exact z2
    go_enter Tryz.func350,Tryz.ntmps350;go_wp2_with fail;refine PK.out.mono ?_;rintro e w1 ⟨rfl,q⟩;have LC:=hid (LC.out _ (HR.out.below q.below'));have S:=hid ((St.new (St.refl w rb) zT0).trans (step_below (bw:=rb) q.below'));clear q;go_wp2_with fail;refine LC.out.mono ?_;rintro e w2 h;obtain⟨rfl,S3⟩:=h.err rfl;unfold PanC;go_wp2_with fail;exact⟨rfl,S.out.trans S3,.inl ⟨_,rfl,rfl⟩⟩
   ·have HD:=hid hd
    have z2e:(tx u).toList.isEmpty=false:=by rw[<-List.beq_nil_eq];exact z2
    clear hd;go_enter Tryz.func350,Tryz.ntmps350;go_wp2_with fail;refine PK.out.mono ?_;rintro e w1 ⟨rfl,q⟩;have LC:=hid (LC.out _ (HR.out.below q.below'));have S:=hid ((St.new (St.refl w rb) zT0).trans (step_below (bw:=rb) q.below'));clear q
    go_wp2_with (go_at_call 298;refine(condDigit d _).mono ?_;rintro e w' ⟨rfl,rfl⟩;rw[HD.out])
    refine LC.out.mono ?_;rintro e w2 h;obtain⟨rfl,S3⟩:=h.err rfl;unfold PanC;go_wp2_with fail;exact⟨rfl,S.out.trans S3,.inl ⟨_,rfl,rfl⟩⟩
 | ok p=>
   obtain⟨x,r⟩:=p;rw[hloc]at LC;simp only;have hne:w.heap.size≠rb:=by omega
   have HTK:=hid (show L≠[]->bk a≠w.heap.size from fun h=>by have:=htk h;omega);clear htk;rcases hc with z2|⟨d,z2,ix,hd,z3⟩
   ·have z2e:(tx u).toList.isEmpty=true:=by rw[<-List.beq_nil_eq];exact z2
    go_enter Tryz.func350,Tryz.ntmps350;go_wp2_with fail;refine PK.out.mono ?_;rintro e w1 ⟨rfl,q⟩;have LC:=hid (LC.out _ (HR.out.below q.below'));have S:=hid (step_below (bw:=rb) q.below');clear q;go_wp2_with fail;refine LC.out.mono ?_;rintro e w2 h;obtain⟨k2,rfl,⟨rfl,hx⟩,R3,S3⟩:=h.okay rfl;have b2:=thing_cells (S.out.trans S3) hrb;have fz:=fun k=>(frz_step (S.out.trans S3) (b:=w.heap.size) (by simp) (by omega) k).trans (frz_new w _ _ k)
    have p0:=b2.get 0 _ rfl;have p1:=b2.get 1 _ rfl;have p2:=b2.get 2 _ rfl;have HS:=hid ((St.new (St.refl w rb) zT0).trans (S.out.trans S3));have HR5:=hid R3;have HX:=hid hx;clear S3 R3 h b2 hx;go_wp2_with fail;exact bodyPost_ret (by simp[results,Tryz.results350,go_sem,p0,p1,p2]) rfl ⟨St.put (St.put (St.put HS.out (Nat.le_refl _) _ _) (Nat.le_refl _) _ _) (Nat.le_refl _) _ _,.inr ⟨⟨-1,0,x⟩,k2,rfl,⟨rfl,HX.out⟩,((HR5.out.put hne HTK.out _ _).put hne HTK.out _ _).put hne HTK.out _ _⟩⟩
   ·have HD:=hid hd
    have z2e:(tx u).toList.isEmpty=false:=by rw[<-List.beq_nil_eq];exact z2
    clear hd;go_enter Tryz.func350,Tryz.ntmps350;go_wp2_with fail;refine PK.out.mono ?_;rintro e w1 ⟨rfl,q⟩;have LC:=hid (LC.out _ (HR.out.below q.below'));have S:=hid (step_below (bw:=rb) q.below');clear q
    go_wp2_with (go_at_call 298;refine(condDigit d _).mono ?_;rintro e w' ⟨rfl,rfl⟩;rw[HD.out])
    refine LC.out.mono ?_;rintro e w2 h;obtain⟨k2,rfl,⟨rfl,hx⟩,R3,S3⟩:=h.okay rfl;have b2:=thing_cells (S.out.trans S3) hrb;have fz:=fun k=>(frz_step (S.out.trans S3) (b:=w.heap.size) (by simp) (by omega) k).trans (frz_new w _ _ k)
    have p0:=b2.get 0 _ rfl;have p1:=b2.get 1 _ rfl;have p2:=b2.get 2 _ rfl;have HS:=hid ((St.new (St.refl w rb) zT0).trans (S.out.trans S3));have HR5:=hid R3;have HX:=hid hx;clear S3 R3 h b2 hx;go_wp2_with fail;exact bodyPost_ret (by simp[results,Tryz.results350,go_sem,p0,p1,p2]) rfl ⟨St.put (St.put (St.put HS.out (Nat.le_refl _) _ _) (Nat.le_refl _) _ _) (Nat.le_refl _) _ _,.inr ⟨⟨-1,0,x⟩,k2,rfl,⟨rfl,HX.out⟩,((HR5.out.put hne HTK.out _ _).put hne HTK.out _ _).put hne HTK.out _ _⟩⟩
end Go.Proofs.YtkbbgjloifmmbaaGreatDoor
namespace Go.Proofs.YtkbbgjloifmmbaaGreatDoor
open Go.RowKit
@[reducible] def regsV:Value:=.agg #[.string (tx (regX 0)),.string (tx (regX 1)),.string (tx (regX 2)),.string (tx (regX 3)),.string (tx (regX 4)),.string (tx (regX 5)),.string (tx (regX 6)),.string (tx (regX 7)),.string (tx (regX 8)),.string (tx (regX 9)),.string (tx (regX 10)),.string (tx (regX 11)),.string (tx (regX 12)),.string (tx (regX 13)),.string (tx (regX 14))]
theorem run_regs(k:Nat)(h:k<15): ∀w,(Instr.index 208 regsV (.int .i64 k)).run Tryz.prog w= .ok (.string (tx (regX k))) w:=by
 intro w;have u:=Tryz.underlying208;have a4:=Tryz.isAgg9;have z4:=Tryz.sizeOf9;have hk:k=0\/k=1\/k=2\/k=3\/k=4\/k=5\/k=6\/k=7\/k=8\/k=9\/k=10\/k=11\/k=12\/k=13\/k=14:=by omega
 rcases hk with rfl|rfl|rfl|rfl|rfl|rfl|rfl|rfl|rfl|rfl|rfl|rfl|rfl|rfl|rfl<;>simp[Instr.index,asIntOf,run_underlying u,part,a4,z4]
theorem intelRegOf(s:Tx)(w:World)(g:Gl w):Calls Tryz.prog 176 #[.string (tx s)] w fun e w'=>e= .returned (.tuple #[.int .i64 (optX (regOfX s)).1,.int .i64 (optX (regOfX s)).2])/\w=w':=by
 have c0:=g.regs 0 (by omega);have c1:=g.regs 1 (by omega);have c2:=g.regs 2 (by omega);have c3:=g.regs 3 (by omega);have c4:=g.regs 4 (by omega);have c5:=g.regs 5 (by omega);have c6:=g.regs 6 (by omega);have c7:=g.regs 7 (by omega);have c8:=g.regs 8 (by omega);have c9:=g.regs 9 (by omega);have c10:=g.regs 10 (by omega);have c11:=g.regs 11 (by omega);have c12:=g.regs 12 (by omega);have c13:=g.regs 13 (by omega);have c14:=g.regs 14 (by omega);have IX:=hid run_regs;clear g;go_enter Tryz.func176,Tryz.ntmps176
 go_upto_region 2 with(fail)
 clear c0 c1 c2 c3 c4 c5 c6 c7 c8 c9 c10 c11 c12 c13 c14;go_wp2_with fail
 go_loop [7] (fun i=> ∃k:Nat,k<=15/\i= .int .i64 k/\Hid (∀m,m<k->regX m≠s)) (fun i=>15-(intOf i).toNat)
 case atStart=>exact⟨0,by omega,rfl,fun m hm=>absurd hm (Nat.not_lt_zero m)⟩
 case round=>
  obtain⟨k,hk,rfl,HM⟩:=hrel
  by_cases hlt:k<15
  ·have ix:=IX.out k hlt
   by_cases he:regX k=s
   ·have hz:((tx (regX k)).toList==(tx s).toList)=true:=by rw[tx_beq];simpa using he
    have HR:=hid (regX_hit hlt he);clear he;go_wp2_with fail
    go_ret2
    exact⟨ret_ii (by rw[HR.out]) (by rw[HR.out]),rfl⟩
   ·have hz:((tx (regX k)).toList==(tx s).toList)=false:=tx_eq_false he
    have HM2:=hid (show ∀m,m<k+1->regX m≠s from fun m hm=>by
     rcases Nat.lt_succ_iff_lt_or_eq.1 hm with h|h
     ·exact HM.out m h
     ·subst h;exact he)
    clear he;go_wp2_with fail
    go_round
    case rel=>exact⟨k+1,by omega,by go_num,HM2⟩
    case measure=>simp[intOf];omega
  ·obtain rfl:k=15:=by omega
   have HR:=hid (regX_miss HM.out);go_wp2_with fail
   go_ret2
   exact⟨ret_ii (by rw[HR.out]) (by rw[HR.out]),rfl⟩
def RetTx(o:Option Tx)(w:World)(e:Ending)(w':World):Prop:= ∃u ok,e= .returned (.tuple #[.string (tx u),.bool ok])/\OptV o u ok/\u.length<=1000000/\Below w.heap.size w w'
theorem last_cm(a z:UInt8)(m:Tx):(a::(m++[z])).getLast?=some z:=by rw[<-List.cons_append,last_of_app (by simp)];rfl
theorem place_in{s m:Tx}(e:s=91::(m++[93])):OptV (placeX s) (trimT m) (nameB (trimT m)):=by
 have e2:(s.drop 1).dropLast=m:=by rw[e];simp
 unfold OptV placeX;rw[e2];cases nameB (trimT m)with
 |true=>rw[if_pos ⟨by rw[e];simp,by rw[e];rfl,by rw[e];exact last_cm _ _ _,rfl⟩];rfl
 |false=>rw[if_neg (fun h=>by cases h.2.2.2)];rfl
theorem place_no{s:Tx}(h: ¬(2<=s.length/\s.head?=some 91/\s.getLast?=some 93)):placeX s=none:=by
 unfold placeX;rw[if_neg (fun hh=>h ⟨hh.1,hh.2.1,hh.2.2.1⟩)]
theorem intelPlace(s:Tx)(hl:s.length<=1000000)(w:World):Calls Tryz.prog 174 #[.string (tx s)] w (RetTx (placeX s) w):=by
 have hsz:=tx_size s
 by_cases h2:2<=s.length
 ·obtain⟨c,r,rfl⟩: ∃c r,s=c::r:=by
   cases s with
   |nil=>simp at h2
   |cons c r=>exact⟨c,r,rfl⟩
  obtain⟨z,m,rfl⟩: ∃z m,r=m++[z]:=by
   have hne:r≠[]:=by intro e;subst e;simp at h2
   obtain⟨z,hz⟩: ∃z,r.getLast?=some z:=⟨_,List.getLast?_eq_some_getLast hne⟩;obtain⟨m,hm⟩:=last_iff.1 hz;exact⟨z,m,hm⟩
  obtain⟨n,hn⟩: ∃n,(tx (c::(m++[z]))).size=n:=⟨_,rfl⟩;have hnl:n=m.length+2:=by rw[<-hn,hsz];simp
  have zl:decide ((n:Int)<2)=false:=by simp;omega
  have hn2:2<=n:=by omega
  have hn3:n<=1000000:=by simp at hl;omega
  have i0:=run_ixz (c::(m++[z])) c rfl;have i1:=run_ix (c::(m++[z])) (m.length+1) z (by simp);rw[show((m.length+1:Nat):Int)=(n:Int)-1 by omega]at i1;have gl:(c::(m++[z])).getLast?=some z:=last_cm _ _ _
  by_cases hc:c=91
  ·by_cases hz:z=93
   ·subst hc;subst hz
    have sl:=run_strsl (91::(m++[93])) 1 (m.length+1) (by omega) (by simp);have e2:((91::(m++[93])).take (m.length+1)).drop 1=m:=by simp
    rw[e2,show((m.length+1:Nat):Int)=(n:Int)-1 by omega,show((1:Nat):Int)=1 by rfl]at sl;have HO:=hid (place_in (s:=91::(m++[93])) rfl);have hml:m.length<=1000000:=by simp at hl;omega
    have TR:=hid (fun w=>trim_any m (by omega) w);have htl:=trimT_length m;have NM:=hid (fun w=>intelNamed (trimT m) (by omega) w);have y1:(((91:UInt8).toNat:Int) != 91)=false:=by decide
    have y2:(((93:UInt8).toNat:Int) != 93)=false:=by decide
    have HT:=hid (show(trimT m).length<=1000000 by omega);generalize trimT m=t at*;generalize nameB t=b at*;clear hl h2 hsz hnl e2 gl;go_enter Tryz.func174,Tryz.ntmps174;go_wp2_with fail;refine(TR.out _).mono ?_;rintro e w1 ⟨rfl,E⟩
    go_wp2_with (go_at_call 177;refine(NM.out _).mono ?_;rintro e w' ⟨rfl,rfl⟩)
    go_ret2
    exact⟨t,b,rfl,HO.out,HT.out,E⟩
   ·have HO:=hid (place_no (s:=c::(m++[z])) (fun h=>hz (by rw[gl]at h;simpa using h.2.2)))
    have y2:((z.toNat:Int) != 93)=true:=u8_ne z 93 hz;subst hc;have y1:(((91:UInt8).toNat:Int) != 91)=false:=by decide
    clear hl h2 hsz hnl gl hz;go_enter Tryz.func174,Tryz.ntmps174;go_wp2_with fail
    go_ret2
    exact⟨[],false,rfl,HO.out,by simp,blN⟩
  ·have HO:=hid (place_no (s:=c::(m++[z])) (fun h=>hc (by simpa using h.2.1)))
   have y1:((c.toNat:Int) != 91)=true:=u8_ne c 91 hc;clear hl h2 hsz hnl gl hc;go_enter Tryz.func174,Tryz.ntmps174;go_wp2_with fail
   go_ret2
   exact⟨[],false,rfl,HO.out,by simp,blN⟩
 ·have HO:=hid (place_no (s:=s) (fun h=>h2 h.1))
  obtain⟨n,hn⟩: ∃n,(tx s).size=n:=⟨_,rfl⟩;have zl:decide ((n:Int)<2)=true:=by rw[<-hn,hsz];simp;omega
  clear hl h2 hsz;go_enter Tryz.func174,Tryz.ntmps174;go_wp2_with fail
  go_ret2
  exact⟨[],false,rfl,HO.out,by simp,blN⟩
end Go.Proofs.YtkbbgjloifmmbaaGreatDoor
