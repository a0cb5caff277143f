/- What ReadBackP leans on, part 16. -/
import Derived.Test.YtkbbgjloifmmbaaGreatDoorRb15
set_option linter.unusedVariables false
set_option maxRecDepth 100000
set_option maxHeartbeats 6400000
namespace Go.Proofs.YtkbbgjloifmmbaaGreatDoor
open _root_.Go.Proofs.Tryz
open _root_.List renaming getElem?_eq_getElem->amK,beq_nil_eq->aox,drop_eq_nil_of_le->amT
open _root_.Nat renaming le_refl->amS,lt_succ_iff_lt_or_eq->an5,add_zero->aod
open _root_.Go.Instr renaming index->aor
open Go.RowKit Go.Sort
def VI(x:Int)(e:Ending)(w:World):Prop:=e= .returned (.int .i64 x)
def VS(x:Tx)(e:Ending)(w:World):Prop:=e= .returned (.string (tx x))/\x.length<=262144
theorem adh{a b:Int}{L:List Tok}{k:Nat}{n:Int}(h:cD (aA (L.drop k))=some n)(h1:a<=n)(h2:n<=b):k<L.length/\jf a b (L.drop k)= .ok (n,L.drop (k+1)):=by
 by_cases hk:k<L.length
 ·have ht:=amK hk
  rw[rU ht]at h;refine⟨hk,?_⟩;rw[drop_at ht,tU,h];exact if_pos ⟨h1,h2⟩
 ·rw[xZ (by omega)]at h
  rw[show cD []=none by decide+kernel]at h;cases h
theorem adi{a b:Int}{L:List Tok}{k:Nat}(h: ∀n,cD (aA (L.drop k))=some n-> ¬(a<=n/\n<=b)):jf a b (L.drop k)= .error (L.drop k):=by
 by_cases hk:k<L.length
 ·have ht:=amK hk
  rw[rU ht]at h;rw[drop_at ht,tU];cases hn:cD (L[k]).1 with
  |none=>rfl
  |some n=>exact if_neg (h n hn)
 ·rw[amT (by omega)];rfl
theorem Qr{L:List Tok}{s:Tx}(hL: ∀t∈L,t.1.length<=s.length)(k:Nat):(aA (L.drop k)).length<=s.length:=by
 by_cases hk:k<L.length
 ·have ht:=amK hk
  rw[rU ht];exact hL _ (List.getElem_mem hk)
 ·rw[xZ (by omega)];simp
theorem Ou{w:World}{B rb:Nat}{af:Int}{s:Tx}{a:Option Addr}{c:Nat}{L:List Tok}{k:Nat}(R:b7 w B rb af s a c L k)(hsh: ∀t∈L,t.1.length<=s.length)(lo hi:Int)(h1: -2147483648<=lo)(h2:hi<=2147483647)(g:Gl w):
 Calls prog 351 #[.pointer (some ⟨rb,0,none⟩),.int .i64 lo,.int .i64 hi] w (eO w B rb af s a c L (jf lo hi (L.drop k)) VI):=by
 have PK:=hid (fun(w:World) (R:b7 w B rb af s a c L k)=>Aj R 0 (by omega));have FL:=hid (fun(w:World) (R:b7 w B rb af s a c L k)=>Ai R);have HR:=hid R;have ez:=Qr hsh k;have nV:=R.sl;have IH:=hid (fun n=>adh (a:=lo) (b:=hi) (L:=L) (k:=k) (n:=n));have IM:=hid (adi (a:=lo) (b:=hi) (L:=L) (k:=k));rw[aod,show((0:Nat):Int)=0 by rfl]at PK;generalize jf lo hi (L.drop k)=p at*;generalize aA (L.drop k)=u at*;clear hsh R
 by_cases hv: ∃v,Lib.atoiAll u= .ok v
 ·obtain⟨v,hv⟩:=hv
  obtain⟨b1,b2⟩:=Lib.atoiAll_bounds hv;have AT:=hid (Dj u (by omega) v hv);have IT:=hid (fun(w:World) (g:Gl w)=>jV v b1 b2 w g);have hn:=Ka hv;obtain⟨x,hx⟩: ∃x,Lib.itoa v=x:=⟨_,rfl⟩;rw[hx]at hn IT
  by_cases hok:x=u/\lo<=v/\v<=hi
  ·obtain⟨rfl,l1,l2⟩:=hok
   rw[if_pos ⟨rfl,Ev.2 ⟨by omega,by omega⟩⟩]at hn;obtain⟨hk,hp⟩:=IH.out v hn l1 l2;subst hp;have z:((tx x).toList==(tx x).toList)=true:=by simp
   have z1:decide (v<lo)=false:=by simp;omega
   have z2:decide (hi<v)=false:=by simp;omega
   have HK:=hid hk;clear hn hv b1 b2 hx l1 l2 hk IH IM ez nV h1 h2;go_in;go_wp2_with fail;refine(PK.out _ HR.out).mono ?_;rintro e w1 ⟨rfl,q⟩;have E:=q.aQ;clear q;go_wp2_with fail;refine(AT.out _).mono ?_;rintro e w2 ⟨rfl,E2⟩;have E:=E.trans (E2.mono E.size);have g2:=g.below E;go_wp2_with fail;refine(IT.out _ g2).mono ?_;rintro e w3 ⟨rfl,E3⟩;have E:=E.trans (E3.mono E.size);go_wp2_with fail;refine(PK.out _ (HR.out.below E)).mono ?_;rintro e w4 ⟨rfl,q⟩;have E:=E.trans (q.aQ.mono E.size);have R1:=HR.out.below E;obtain⟨c0,c1,c2,c3,f3,lt⟩:=R1.cells;obtain⟨R2,S2⟩:=R1.next HK.out;have HS:=hid ((aX (bw:=rb) E).trans S2);have H2:=hid R2;have hb:k<=262144:=by have:=R1.le;have:=R1.sm;omega
   clear R1 R2 S2 q E E2 E3 g2;go_wp2_with fail;go_ret;exact⟨HS.out,.inr ⟨v,k+1,rfl,rfl,H2.out⟩⟩
  ·have hp:=IM.out (fun n hn' hb=>by
    rw[hn]at hn'
    split at hn'
    ·rename_i hh;cases hn';exact hok ⟨hh.1,hb⟩
    ·cases hn')
   subst hp
   have hc:((tx x).toList==(tx u).toList)=false\/(((tx x).toList==(tx u).toList)=true/\decide (v<lo)=true)\/(((tx x).toList==(tx u).toList)=true/\decide (v<lo)=false/\decide (hi<v)=true):=by
    by_cases e:x=u
    ·right
     have z:((tx x).toList==(tx u).toList)=true:=by rw[jG];simpa using e
     by_cases l1:lo<=v
     ·right
      refine⟨z,by simp;omega,?_⟩;simp only[decide_eq_true_eq];rcases Int.lt_or_le hi v with h|h
      ·exact h
      ·exact absurd ⟨e,l1,h⟩ hok
     ·left;exact⟨z,by simp;omega⟩
    ·exact .inl (sI e)
   clear hn hv b1 b2 hx IH IM ez nV h1 h2 hok;rcases hc with z|⟨z,z1⟩|⟨z,z1,z2⟩
   all_goals
    go_in;go_wp2_with fail;refine(PK.out _ HR.out).mono ?_;rintro e w1 ⟨rfl,q⟩;have E:=q.aQ;clear q;go_wp2_with fail;refine(AT.out _).mono ?_;rintro e w2 ⟨rfl,E2⟩;have E:=E.trans (E2.mono E.size);have g2:=g.below E;go_wp2_with fail;refine(IT.out _ g2).mono ?_;rintro e w3 ⟨rfl,E3⟩;have E:=E.trans (E3.mono E.size);go_wp2_with fail;refine(PK.out _ (HR.out.below E)).mono ?_;rintro e w4 ⟨rfl,q⟩;have E:=E.trans (q.aQ.mono E.size);have FL:=hid (FL.out _ (HR.out.below E));have HE:=hid E;clear q E E2 E3 g2;go_wp2_with fail;refine FL.out.mono ?_;rintro e w5 ⟨rfl,q⟩;unfold dU;go_wp2_with fail;exact⟨rfl,(aX (bw:=rb) HE.out).trans (aX q.aQ),.inl ⟨_,rfl,rfl⟩⟩
 ·have hv: ∀v,Lib.atoiAll u≠ .ok v:=fun v h=>hv ⟨v,h⟩
  have AT:=hid (Di u (by omega) hv);have hp:=IM.out (fun n hn'=>by rw[Tf hv]at hn';cases hn');subst hp;clear hv IH IM ez nV h1 h2;go_in;go_wp2_with fail;refine(PK.out _ HR.out).mono ?_;rintro e w1 ⟨rfl,q⟩;have E:=q.aQ;have g1:=g.below E;clear q;go_wp2_with fail;refine(AT.out _ g1).mono ?_;rintro e w2 ⟨n,tp,pp,rfl,E2⟩;have E:=E.trans (E2.mono E.size);have FL:=hid (FL.out _ (HR.out.below E));have HE:=hid E;clear E E2 g1;go_wp2_with fail;refine FL.out.mono ?_;rintro e w5 ⟨rfl,q⟩;unfold dU;go_wp2_with fail;exact⟨rfl,(aX (bw:=rb) HE.out).trans (aX q.aQ),.inl ⟨_,rfl,rfl⟩⟩
theorem aeq{L:List Tok}{k:Nat}(h:az (aA (L.drop k))=true):k<L.length/\jg (L.drop k)= .ok (aA (L.drop k),L.drop (k+1)):=by
 by_cases hk:k<L.length
 ·have ht:=amK hk
  rw[rU ht]at h⊢;exact⟨hk,by rw[drop_at ht,tY,if_pos h]⟩
 ·rw[xZ (by omega)]at h;cases h
theorem aer{L:List Tok}{k:Nat}(h:az (aA (L.drop k))=false):jg (L.drop k)= .error (L.drop k):=by
 by_cases hk:k<L.length
 ·have ht:=amK hk
  rw[rU ht]at h;rw[drop_at ht,tY,if_neg (by rw[h];decide)]
 ·rw[amT (by omega)];rfl
theorem Ox{w:World}{B rb:Nat}{af:Int}{s:Tx}{a:Option Addr}{c:Nat}{L:List Tok}{k:Nat}(R:b7 w B rb af s a c L k)(hsh: ∀t∈L,t.1.length<=s.length):
 Calls prog 356 #[.pointer (some ⟨rb,0,none⟩)] w (eO w B rb af s a c L (jg (L.drop k)) VS):=by
 have PK:=hid (fun(w:World) (R:b7 w B rb af s a c L k)=>Aj R 0 (by omega));have FL:=hid (fun(w:World) (R:b7 w B rb af s a c L k)=>Ai R);have HR:=hid R;have ez:=Qr hsh k;have nV:=R.sl;rw[aod,show((0:Nat):Int)=0 by rfl]at PK;have NM:=hid (fun w=>Oz (aA (L.drop k)) (by omega) w);cases hb:az (aA (L.drop k))with
 | true=>
   rw[hb]at NM;obtain⟨hk,hp⟩:=aeq hb;rw[hp];obtain⟨t,ht⟩: ∃t,L[k]? =some t:=⟨_,amK hk⟩;rw[rU ht]at*;have HT:=hid ht;have HK:=hid hk;have HU:=hid (show t.1.length<=262144 by omega);clear hb hp hk ht ez nV hsh R;go_in;go_wp2_with fail;refine(PK.out _ HR.out).mono ?_;rintro e w1 ⟨rfl,q⟩;have E:=q.aQ;have R1:=HR.out.below E;obtain⟨c0,c1,c2,c3,f3,lt⟩:=R1.cells;obtain⟨R2,S2⟩:=R1.next HK.out;have HS:=hid ((aX (bw:=rb) E).trans S2);have hb:k<=262144:=by have:=R1.le;have:=R1.sm;omega
   have H2:=hid R2;clear R1 R2 S2 q E
   go_upto_region 4 with(first|(go_at_call 322;refine(NM.out _).mono ?_;rintro e w' ⟨rfl,rfl⟩)|fail)
   generalize w1.setCell ⟨rb,3,none⟩ (.int .i64 ((k:Int)+1))=w2 at*;clear c0 c1 c2 c3 f3 lt;obtain⟨c0,c1,c2,c3,f3,lt⟩:=H2.out.cells;obtain⟨d0,d1⟩:=H2.out.toks.tok HT.out;have ix:=H2.out.toks.idx Fx jb k HK.out c;rw[show((k+1:Nat):Int)=(k:Int)+1 by omega]at c3;have vS:=ix;rw[show(k:Int)=(k:Int)+1-1 by omega]at vS
   go_big_region
   all_goals go_wp2_with fail
   all_goals go_ret
   all_goals exact⟨HS.out.trans (aX aN),.inr ⟨t.1,k+1,rfl,⟨rfl,HU.out⟩,H2.out.below aN⟩⟩
 | false=>
   rw[hb]at NM;rw[aer hb];generalize aA (L.drop k)=u at*;clear hb ez nV hsh R;go_in;go_wp2_with fail;refine(PK.out _ HR.out).mono ?_;rintro e w1 ⟨rfl,q⟩;have FL:=hid (FL.out _ (HR.out.below q.aQ));have Q:=hid q;clear q
   go_wp2_with (go_at_call 322;refine(NM.out _).mono ?_;rintro e w' ⟨rfl,rfl⟩)
   refine FL.out.mono ?_;rintro e w5 ⟨rfl,q⟩;unfold dU;go_wp2_with fail;exact⟨rfl,(aX (bw:=rb) Q.out.aQ).trans (aX q.aQ),.inl ⟨_,rfl,rfl⟩⟩
def Br(o:Option Nat):Int:=match o with
 |some n=>n
 |none=> -1
theorem aiE{af:Int}{s:Tx}{n:Nat}(h:(n:Int)<cE af)(hm: ∀m,m<n->cz af m≠s)(e:cz af n=s):dQ af s=some n:=by
 unfold dQ;have hl:n<(cE af).toNat:=by omega
 rw[List.find?_range_eq_some];exact⟨by simpa using e,List.mem_range.2 hl,fun j hj=>by simpa using hm j hj⟩
theorem aiG{af:Int}{s:Tx}{n:Nat}(hn:(n:Int)=cE af)(hm: ∀m,m<n->cz af m≠s):dQ af s=none:=by
 unfold dQ;rw[List.find?_eq_none];intro m hmm;have:=List.mem_range.1 hmm;simpa using hm m (by omega)
theorem aaq(af:Int)(s:Tx)(w:World):Calls prog 357 #[.int .i64 af,.string (tx s)] w (ax w (.int .i64 (Br (dQ af s)))):=by
 obtain⟨N,hN⟩: ∃N:Nat,cE af=N:=⟨(cE af).toNat,by have:=KL af;omega⟩;have hb:=KL af;have CR:=hid (aar af);have RG:=hid (fun(k:Nat) (hk:(k:Int)<cE af) (w:World)=>OJ af k hk w);have HH:=hid (fun(n:Nat) (h:n<N)=>aiE (af:=af) (s:=s) (n:=n) (by omega));have HM:=hid (fun(hm: ∀m,m<N->cz af m≠s)=>aiG (af:=af) (s:=s) (n:=N) hN.symm hm);have HB:=hid (show ∀k:Nat,k<N->(k:Int)<cE af from fun k hk=>by omega);rw[hN]at CR;generalize dQ af s=o at*;have hNb:N<=32:=by omega
 clear hN hb;go_in
 go_wp2_with (go_at_call 323;refine(CR.out _).mono ?_;rintro e w' ⟨rfl,rfl⟩)
 go_loopw [8] (fun i wr=> ∃k:Nat,k<=N/\i= .int .i64 k/\Below w.heap.size w wr/\Hid (∀m,m<k->cz af m≠s)) (fun i _=>N-(intOf i).toNat)
 case atStart=>exact⟨0,by omega,rfl,aN,fun m hm=>absurd hm (Nat.not_lt_zero m)⟩
 case round=>
  obtain⟨k,hk,rfl,E,HK⟩:=hrel
  by_cases hlt:k<N
  ·have RC:=hid (RG.out k (HB.out k hlt))
   by_cases he:cz af k=s
   ·have hz:((tx (cz af k)).toList==(tx s).toList)=true:=by rw[jG];simpa using he
    have HO:=hid (HH.out k hlt HK.out he);clear he;generalize cz af k=u at*;go_wp2_with fail;refine(RC.out _).mono ?_;rintro e w1 ⟨rfl,E1⟩;have E:=E.trans (E1.mono E.size);go_wp2_with fail;go_ret;exact⟨bJ (by rw[HO.out];rfl),E⟩
   ·have hz:((tx (cz af k)).toList==(tx s).toList)=false:=sI he
    have fJ:=hid (show ∀m,m<k+1->cz af m≠s from fun m hm=>by
     rcases an5.1 hm with h|h
     ·exact HK.out m h
     ·subst h;exact he)
    clear he;generalize cz af k=u at*;go_wp2_with fail;refine(RC.out _).mono ?_;rintro e w1 ⟨rfl,E1⟩;have E:=E.trans (E1.mono E.size);go_wp2_with fail
    go_roundw
    case rel=>exact⟨k+1,by omega,by go_num,E,fJ⟩
    case measure=>simp[intOf];omega
  ·obtain rfl:k=N:=by omega
   have HO:=hid (HM.out HK.out);go_wp2_with fail;go_ret;exact⟨bJ (by rw[HO.out];rfl),E⟩
def VT(t:Th)(e:Ending)(w:World):Prop:=e= .returned (iu t)/\t.loc.length<=262144
theorem b7.put{w:World}{B rb:Nat}{af:Int}{s:Tx}{a:Option Addr}{c:Nat}{L:List Tok}{k:Nat}(h:b7 w B rb af s a c L k){b:Nat}(hb:b≠rb)(ha:L≠[]->bk a≠b)(j:Nat)(v:Value):b7 (w.setCell ⟨b,j,none⟩ v) B rb af s a c L k:=by
 have hs:Step w (w.setCell ⟨b,j,none⟩ v) (Option.some ⟨b,0,none⟩) (Option.some ⟨b,0,none⟩):=⟨⟨rfl,rfl,rfl,by simp,fun k hk hne=>Below.heap_setCell _ _ _ _ (fun e=>hne (by simp[e]))⟩,.inl rfl⟩;refine⟨Own.kept h.own hs.grown (.inr ?_),bf.step jb (by omega) h.toks hs ha,h.ne,h.le,h.sm,h.sl⟩;simp;exact fun e=>hb e.symm
theorem St.put{w w1:World}{rb:Nat}(h:St w w1 rb){b:Nat}(hb:w.heap.size<=b)(j:Nat)(v:Value):St w (w1.setCell ⟨b,j,none⟩ v) rb:=
 ⟨⟨h.grown.os,h.grown.tape,h.grown.output,by simpa using h.grown.size,fun k hk hne=>by rw[Below.heap_setCell _ _ _ _ (by simp;omega)];exact h.grown.block k hk hne⟩,.inl rfl⟩
theorem St.new{w w1:World}{rb:Nat}(h:St w w1 rb)(o:Obj):St w (w1.alloc o) rb:=h.trans (aX (al _ _))
abbrev fI:Obj:=.cells #[.int .i64 0,.int .i64 0,.string ⟨#[]⟩] 25
theorem kD{w w1:World}{rb:Nat}{us:Array Value}{T:TypeId}(hs:St (w.alloc (.cells us T)) w1 rb)(hrb:rb<w.heap.size):aG w1 w.heap.size us.toList:=(aG.new w us T).step hs (by omega)
theorem iO{w w1:World}{rb b:Nat}(hs:St w w1 rb)(hb:b<w.heap.size)(hne:b≠rb)(k:Nat):w1.frozen? ⟨b,k,none⟩=w.frozen? ⟨b,k,none⟩:=by
 unfold World.frozen?;rw[hs.grown.block b hb (by simpa using hne)]
theorem ew(w:World)(us:Array Value)(T:TypeId)(k:Nat):(w.alloc (.cells us T)).frozen? ⟨w.heap.size,k,none⟩=false:=by
 have hh:=heap_alloc_new w (.cells us T);unfold World.frozen?;simp only[hh];simp
theorem akt{af:Int}{L:List Tok}{k:Nat}(h:aA (L.drop k)=[91]):gv af (L.drop k)=match jg (L.drop (k+1))with
 | .error e=>.error e
 | .ok (x,r)=>match bt [93] r with
   | .error e=>.error e
   | .ok r=>.ok (⟨-1,0,x⟩,r):=by
 unfold gv;rw[if_pos h,List.tail_drop];rfl
theorem aku{af:Int}{L:List Tok}{k:Nat}(h:aA (L.drop k)≠[91])(h2:qu (aA (L.drop k))=true):gv af (L.drop k)=match jf 0 15 (L.drop k)with
 | .error e=>.error e
 | .ok (n,r)=>match bt [58] r with
   | .error e=>.error e
   | .ok r=>match dQ af (aA r)with
     |none=>.error r
     |some k=>.ok (⟨n,k,[]⟩,r.tail):=by
 unfold gv;rw[if_neg h,if_pos h2];rfl
theorem akv{af:Int}{L:List Tok}{k:Nat}(h:aA (L.drop k)≠[91])(h2:qu (aA (L.drop k))=false):gv af (L.drop k)=match jg (L.drop k)with
 | .error e=>.error e
 | .ok (x,r)=>.ok (⟨-1,0,x⟩,r):=by
 unfold gv;rw[if_neg h,if_neg (by rw[h2];decide)];rfl
theorem tK{L:List Tok}{k:Nat}(h:aA (L.drop k)≠[]):k<L.length:=by
 rcases Nat.lt_or_ge k L.length with h'|h'
 ·exact h'
 ·exact absurd (xZ h') h
def oN(rb:Nat)(w:World)(u:Tx):Prop:=Calls prog 236 #[.pointer (some ⟨rb,0,none⟩),.int .i64 0] w (sY w (.string (tx u)))
theorem qz{w:World}{B rb:Nat}{af:Int}{s:Tx}{a:Option Addr}{c:Nat}{L:List Tok}{k:Nat}(R:b7 w B rb af s a c L k):oN rb w (aA (L.drop k)):=by
 have:=Aj R 0 (by omega);rw[aod]at this;exact this
theorem aaA{w:World}{B rb:Nat}{af:Int}{s:Tx}{a:Option Addr}{c:Nat}{L:List Tok}{k:Nat}(R:b7 w B rb af s a c L k)(hsh: ∀t∈L,t.1.length<=s.length)(kL:aA (L.drop k)=[91]):
 Calls prog 350 #[.pointer (some ⟨rb,0,none⟩)] w (eO w B rb af s a c L (gv af (L.drop k)) VT):=by
 obtain⟨-, -, -, -, -, hrb⟩:=R.cells;have hk:=tK (L:=L) (k:=k) (by rw[kL];decide);have htk:L≠[]->bk a<w.heap.size:=fun h=>R.toks.lt jb (by omega) h
 have R0:=R.below (al w fI);have PK:=hid (qz R0);rw[kL]at PK;unfold oN at PK;have LC:=hid (fun(w:World) (R:b7 w B rb af s a c L (k+1))=>Ox R hsh);have TK:=hid (fun(w:World) (k':Nat) (R:b7 w B rb af s a c L k')=>vo R [93] (by decide));rw[akt kL];have HK:=hid hk;have HR:=hid R0;have z:((tx [91]).toList==[91])=true:=by rw[aW];rfl
 have hb:k<=262144:=by have:=R.le;have:=R.sm;omega
 clear hsh kL R R0 hk;cases hloc:jg (L.drop (k+1))with
 | error l=>
   rw[hloc]at LC;go_in;go_wp2_with fail;refine PK.out.mono ?_;rintro e w1 ⟨rfl,q⟩;have R1:=HR.out.below q.aQ;obtain⟨c0,c1,c2,c3,f3,lt⟩:=R1.cells;obtain⟨R2,S2⟩:=R1.next HK.out;have S:=hid ((St.new (St.refl w rb) fI).trans ((aX (bw:=rb) q.aQ).trans S2));have LC:=hid (LC.out _ R2);clear R1 R2 S2 q;go_wp2_with fail;refine LC.out.mono ?_;rintro e w2 h;obtain⟨rfl,S3⟩:=h.err rfl;unfold dU;go_wp2_with fail;exact⟨rfl,S.out.trans S3,.inl ⟨_,rfl,rfl⟩⟩
 | ok p=>
   obtain⟨x,r⟩:=p;rw[hloc]at LC;simp only;cases Eb:bt [93] r with
   | error l=>
     go_in;go_wp2_with fail;refine PK.out.mono ?_;rintro e w1 ⟨rfl,q⟩;have R1:=HR.out.below q.aQ;obtain⟨c0,c1,c2,c3,f3,lt⟩:=R1.cells;obtain⟨R2,S2⟩:=R1.next HK.out;have S:=hid ((St.new (St.refl w rb) fI).trans ((aX (bw:=rb) q.aQ).trans S2));have LC:=hid (LC.out _ R2);clear R1 R2 S2 q;go_wp2_with fail;refine LC.out.mono ?_;rintro e w2 h;obtain⟨k2,rfl,⟨rfl,hx⟩,R3,S3⟩:=h.fP rfl;have TC:=hid (TK.out _ k2 (R3.below (al _ (.cells #[.int .i64 (-1),.int .i64 0,.string (tx x)] 25))));have S:=hid (St.new (S.out.trans S3) (.cells #[.int .i64 (-1),.int .i64 0,.string (tx x)] 25));have HT:=hid Eb;clear hx R3 S3 h Eb;go_wp2_with fail;refine TC.out.mono ?_;rintro e w3 h;obtain⟨rfl,S4⟩:=h.err (show _=Except.error l by rw[HT.out];rfl);unfold dU;go_wp2_with fail;exact⟨rfl,S.out.trans S4,.inl ⟨_,rfl,rfl⟩⟩
   | ok r2=>
     go_in;go_wp2_with fail;refine PK.out.mono ?_;rintro e w1 ⟨rfl,q⟩;have R1:=HR.out.below q.aQ;obtain⟨c0,c1,c2,c3,f3,lt⟩:=R1.cells;obtain⟨R2,S2⟩:=R1.next HK.out;have S:=hid ((aX (bw:=rb) q.aQ).trans S2);have LC:=hid (LC.out _ R2);clear R1 R2 S2 q;go_wp2_with fail;refine LC.out.mono ?_;rintro e w2 h;obtain⟨k2,rfl,⟨rfl,hx⟩,R3,S3⟩:=h.fP rfl;have TC:=hid (TK.out _ k2 (R3.below (al _ (.cells #[.int .i64 (-1),.int .i64 0,.string (tx x)] 25))));have S:=hid (St.new (S.out.trans S3) (.cells #[.int .i64 (-1),.int .i64 0,.string (tx x)] 25));have HT:=hid Eb;have HX:=hid hx;have Ea:rb<w2.heap.size:=R3.cells.2.2.2.2.2;have hs2:=S.out.grown.size;clear hx R3 S3 h Eb;go_wp2_with fail;refine TC.out.mono ?_;rintro e w3 h;obtain⟨k3,rfl,hv,R5,S4⟩:=h.fP (show _=Except.ok ((),r2) by rw[HT.out];rfl);unfold VU at hv;subst hv;have b4:=kD S4 Ea;have b2:=kD (S.out.trans S4) hrb;have fz:=fun k=>(iO (S.out.trans S4) (b:=w.heap.size) (by simp) (by omega) k).trans (ew w _ _ k)
     have q0:=b4.get 0 _ rfl;have q1:=b4.get 1 _ rfl;have q2:=b4.get 2 _ rfl;have p0:=b2.get 0 _ rfl;have p1:=b2.get 1 _ rfl;have p2:=b2.get 2 _ rfl;have HS:=hid ((St.new (St.refl w rb) fI).trans (S.out.trans S4));have zF:=hid R5;have hne:w.heap.size≠rb:=by omega
     have iK:=hid (show L≠[]->bk a≠w.heap.size from fun h=>by have:=htk h;omega);clear S4 R5 h b4 b2 hs2 htk;go_wp2_with fail;exact bodyPost_ret (by simp[results,results350,go_sem,p0,p1,p2]) rfl ⟨St.put (St.put (St.put HS.out (amS _) _ _) (amS _) _ _) (amS _) _ _,.inr ⟨⟨-1,0,x⟩,k3,rfl,⟨rfl,HX.out⟩,((zF.out.put hne iK.out _ _).put hne iK.out _ _).put hne iK.out _ _⟩⟩
theorem aaC{w:World}{B rb:Nat}{af:Int}{s:Tx}{a:Option Addr}{c:Nat}{L:List Tok}{k:Nat}(R:b7 w B rb af s a c L k)(hsh: ∀t∈L,t.1.length<=s.length)(kL:aA (L.drop k)≠[91])(hn:qu (aA (L.drop k))=false):
 Calls prog 350 #[.pointer (some ⟨rb,0,none⟩)] w (eO w B rb af s a c L (gv af (L.drop k)) VT):=by
 obtain⟨-, -, -, -, -, hrb⟩:=R.cells;have htk:L≠[]->bk a<w.heap.size:=fun h=>R.toks.lt jb (by omega) h
 have R0:=R.below (al w fI);have PK:=hid (qz R0);unfold oN at PK;have LC:=hid (fun(w:World) (R:b7 w B rb af s a c L k)=>Ox R hsh);rw[akv kL hn];have HR:=hid R0;generalize aA (L.drop k)=u at*;have z:((tx u).toList==[91])=false:=jm _ _ kL;clear hsh kL R R0
 have hc:((tx u).toList==[])=true\/ ∃d,(((tx u).toList==[])=false/\(∀w,(aor 9 (.string (tx u)) (.int .i64 0)).run prog w= .ok (.int .u8 d.toNat) w)/\aR d=false/\((d.toNat:Int)==45)=false):=by
  cases u with
  |nil=>left;rw[aW];rfl
  | cons d r=>
    right
    unfold qu at hn;rw[Bool.or_eq_false_iff]at hn;exact⟨d,jm _ _ (by simp),mJ (d::r) d rfl,hn.1,by simpa using uy d 45 (by simpa using hn.2)⟩
 clear hn;cases hloc:jg (L.drop k)with
 | error l=>
   rw[hloc]at LC;simp only;rcases hc with z2|⟨d,z2,ix,hd,z3⟩
   ·have FM:(tx u).toList.isEmpty=true:=by rw[<-aox];exact z2
    go_in;go_wp2_with fail;refine PK.out.mono ?_;rintro e w1 ⟨rfl,q⟩;have LC:=hid (LC.out _ (HR.out.below q.aQ));have S:=hid ((St.new (St.refl w rb) fI).trans (aX (bw:=rb) q.aQ));clear q;go_wp2_with fail;refine LC.out.mono ?_;rintro e w2 h;obtain⟨rfl,S3⟩:=h.err rfl;unfold dU;go_wp2_with fail;exact⟨rfl,S.out.trans S3,.inl ⟨_,rfl,rfl⟩⟩
   ·have HD:=hid hd
    have FM:(tx u).toList.isEmpty=false:=by rw[<-aox];exact z2
    clear hd;go_in;go_wp2_with fail;refine PK.out.mono ?_;rintro e w1 ⟨rfl,q⟩;have LC:=hid (LC.out _ (HR.out.below q.aQ));have S:=hid ((St.new (St.refl w rb) fI).trans (aX (bw:=rb) q.aQ));clear q
    go_wp2_with (go_at_call 298;refine(iB d _).mono ?_;rintro e w' ⟨rfl,rfl⟩;rw[HD.out])
    refine LC.out.mono ?_;rintro e w2 h;obtain⟨rfl,S3⟩:=h.err rfl;unfold dU;go_wp2_with fail;exact⟨rfl,S.out.trans S3,.inl ⟨_,rfl,rfl⟩⟩
 | ok p=>
   obtain⟨x,r⟩:=p;rw[hloc]at LC;simp only;have hne:w.heap.size≠rb:=by omega
   have iK:=hid (show L≠[]->bk a≠w.heap.size from fun h=>by have:=htk h;omega);clear htk;rcases hc with z2|⟨d,z2,ix,hd,z3⟩
   ·have FM:(tx u).toList.isEmpty=true:=by rw[<-aox];exact z2
    go_in;go_wp2_with fail;refine PK.out.mono ?_;rintro e w1 ⟨rfl,q⟩;have LC:=hid (LC.out _ (HR.out.below q.aQ));have S:=hid (aX (bw:=rb) q.aQ);clear q;go_wp2_with fail;refine LC.out.mono ?_;rintro e w2 h;obtain⟨k2,rfl,⟨rfl,hx⟩,R3,S3⟩:=h.fP rfl;have b2:=kD (S.out.trans S3) hrb;have fz:=fun k=>(iO (S.out.trans S3) (b:=w.heap.size) (by simp) (by omega) k).trans (ew w _ _ k)
    have p0:=b2.get 0 _ rfl;have p1:=b2.get 1 _ rfl;have p2:=b2.get 2 _ rfl;have HS:=hid ((St.new (St.refl w rb) fI).trans (S.out.trans S3));have zF:=hid R3;have HX:=hid hx;clear S3 R3 h b2 hx;go_wp2_with fail;exact bodyPost_ret (by simp[results,results350,go_sem,p0,p1,p2]) rfl ⟨St.put (St.put (St.put HS.out (amS _) _ _) (amS _) _ _) (amS _) _ _,.inr ⟨⟨-1,0,x⟩,k2,rfl,⟨rfl,HX.out⟩,((zF.out.put hne iK.out _ _).put hne iK.out _ _).put hne iK.out _ _⟩⟩
   ·have HD:=hid hd
    have FM:(tx u).toList.isEmpty=false:=by rw[<-aox];exact z2
    clear hd;go_in;go_wp2_with fail;refine PK.out.mono ?_;rintro e w1 ⟨rfl,q⟩;have LC:=hid (LC.out _ (HR.out.below q.aQ));have S:=hid (aX (bw:=rb) q.aQ);clear q
    go_wp2_with (go_at_call 298;refine(iB d _).mono ?_;rintro e w' ⟨rfl,rfl⟩;rw[HD.out])
    refine LC.out.mono ?_;rintro e w2 h;obtain⟨k2,rfl,⟨rfl,hx⟩,R3,S3⟩:=h.fP rfl;have b2:=kD (S.out.trans S3) hrb;have fz:=fun k=>(iO (S.out.trans S3) (b:=w.heap.size) (by simp) (by omega) k).trans (ew w _ _ k)
    have p0:=b2.get 0 _ rfl;have p1:=b2.get 1 _ rfl;have p2:=b2.get 2 _ rfl;have HS:=hid ((St.new (St.refl w rb) fI).trans (S.out.trans S3));have zF:=hid R3;have HX:=hid hx;clear S3 R3 h b2 hx;go_wp2_with fail;exact bodyPost_ret (by simp[results,results350,go_sem,p0,p1,p2]) rfl ⟨St.put (St.put (St.put HS.out (amS _) _ _) (amS _) _ _) (amS _) _ _,.inr ⟨⟨-1,0,x⟩,k2,rfl,⟨rfl,HX.out⟩,((zF.out.put hne iK.out _ _).put hne iK.out _ _).put hne iK.out _ _⟩⟩
end Go.Proofs.YtkbbgjloifmmbaaGreatDoor
namespace Go.Proofs.YtkbbgjloifmmbaaGreatDoor
open _root_.Go.Proofs.Tryz
open _root_.List renaming getElem?_eq_getElem->amK,beq_nil_eq->aox,drop_eq_nil_of_le->amT
open _root_.Nat renaming le_refl->amS,lt_succ_iff_lt_or_eq->an5,add_zero->aod
open _root_.Go.Instr renaming index->aor
open Go.RowKit
@[reducible] def ai3:Value:=.agg #[.string (tx (aO 0)),.string (tx (aO 1)),.string (tx (aO 2)),.string (tx (aO 3)),.string (tx (aO 4)),.string (tx (aO 5)),.string (tx (aO 6)),.string (tx (aO 7)),.string (tx (aO 8)),.string (tx (aO 9)),.string (tx (aO 10)),.string (tx (aO 11)),.string (tx (aO 12)),.string (tx (aO 13)),.string (tx (aO 14))]
theorem ajw(k:Nat)(h:k<15): ∀w,(aor 208 ai3 (.int .i64 k)).run prog w= .ok (.string (tx (aO k))) w:=by
 intro w;have u:=underlying208;have a4:=isAgg9;have z4:=sizeOf9;have hk:k=0\/k=1\/k=2\/k=3\/k=4\/k=5\/k=6\/k=7\/k=8\/k=9\/k=10\/k=11\/k=12\/k=13\/k=14:=by omega
 rcases hk with rfl|rfl|rfl|rfl|rfl|rfl|rfl|rfl|rfl|rfl|rfl|rfl|rfl|rfl|rfl<;>simp[aor,asIntOf,run_underlying u,part,a4,z4]
theorem Jz(s:Tx)(w:World)(g:Gl w):Calls prog 176 #[.string (tx s)] w fun e w'=>e= .returned (.tuple #[.int .i64 (sw (cU s)).1,.int .i64 (sw (cU s)).2])/\w=w':=by
 have c0:=g.regs 0 (by omega);have c1:=g.regs 1 (by omega);have c2:=g.regs 2 (by omega);have c3:=g.regs 3 (by omega);have c4:=g.regs 4 (by omega);have c5:=g.regs 5 (by omega);have c6:=g.regs 6 (by omega);have c7:=g.regs 7 (by omega);have c8:=g.regs 8 (by omega);have c9:=g.regs 9 (by omega);have c10:=g.regs 10 (by omega);have c11:=g.regs 11 (by omega);have c12:=g.regs 12 (by omega);have c13:=g.regs 13 (by omega);have c14:=g.regs 14 (by omega);have IX:=hid ajw;clear g;go_in
 go_upto_region 2 with(fail)
 clear c0 c1 c2 c3 c4 c5 c6 c7 c8 c9 c10 c11 c12 c13 c14;go_wp2_with fail
 go_loop [7] (fun i=> ∃k:Nat,k<=15/\i= .int .i64 k/\Hid (∀m,m<k->aO m≠s)) (fun i=>15-(intOf i).toNat)
 case atStart=>exact⟨0,by omega,rfl,fun m hm=>absurd hm (Nat.not_lt_zero m)⟩
 case round=>
  obtain⟨k,hk,rfl,HM⟩:=hrel
  by_cases hlt:k<15
  ·have ix:=IX.out k hlt
   by_cases he:aO k=s
   ·have hz:((tx (aO k)).toList==(tx s).toList)=true:=by rw[jG];simpa using he
    have HR:=hid (aiY hlt he);clear he;go_wp2_with fail
    go_ret2
    exact⟨Vc (by rw[HR.out]) (by rw[HR.out]),rfl⟩
   ·have hz:((tx (aO k)).toList==(tx s).toList)=false:=sI he
    have dF:=hid (show ∀m,m<k+1->aO m≠s from fun m hm=>by
     rcases an5.1 hm with h|h
     ·exact HM.out m h
     ·subst h;exact he)
    clear he;go_wp2_with fail
    go_round
    case rel=>exact⟨k+1,by omega,by go_num,dF⟩
    case measure=>simp[intOf];omega
  ·obtain rfl:k=15:=by omega
   have HR:=hid (ai1 HM.out);go_wp2_with fail
   go_ret2
   exact⟨Vc (by rw[HR.out]) (by rw[HR.out]),rfl⟩
def Yg(o:Option Tx)(w:World)(e:Ending)(w':World):Prop:= ∃u ok,e= .returned (.tuple #[.string (tx u),.bool ok])/\dr o u ok/\u.length<=1000000/\Below w.heap.size w w'
theorem Em(a z:UInt8)(m:Tx):(a::(m++[z])).getLast?=some z:=by rw[<-List.cons_append,yu (by simp)];rfl
theorem af0{s m:Tx}(e:s=91::(m++[93])):dr (fQ s) (ah m) (az (ah m)):=by
 have e2:(s.drop 1).dropLast=m:=by rw[e];simp
 unfold dr fQ;rw[e2];cases az (ah m)with
 |true=>rw[if_pos ⟨by rw[e];simp,by rw[e];rfl,by rw[e];exact Em _ _ _,rfl⟩];rfl
 |false=>rw[if_neg (fun h=>by cases h.2.2.2)];rfl
theorem Ko{s:Tx}(h: ¬(2<=s.length/\s.head?=some 91/\s.getLast?=some 93)):fQ s=none:=by
 unfold fQ;rw[if_neg (fun hh=>h ⟨hh.1,hh.2.1,hh.2.2.1⟩)]
theorem Rw(s:Tx)(hl:s.length<=1000000)(w:World):Calls prog 174 #[.string (tx s)] w (Yg (fQ s) w):=by
 have hsz:=aP s
 by_cases h2:2<=s.length
 ·obtain⟨c,r,rfl⟩: ∃c r,s=c::r:=by
   cases s with
   |nil=>simp at h2
   |cons c r=>exact⟨c,r,rfl⟩
  obtain⟨z,m,rfl⟩: ∃z m,r=m++[z]:=by
   have hne:r≠[]:=by intro e;subst e;simp at h2
   obtain⟨z,hz⟩: ∃z,r.getLast?=some z:=⟨_,List.getLast?_eq_some_getLast hne⟩;obtain⟨m,hm⟩:=tV.1 hz;exact⟨z,m,hm⟩
  obtain⟨n,hn⟩: ∃n,(tx (c::(m++[z]))).size=n:=⟨_,rfl⟩;have fC:n=m.length+2:=by rw[<-hn,hsz];simp
  have zl:decide ((n:Int)<2)=false:=by simp;omega
  have hn2:2<=n:=by omega
  have yf:n<=1000000:=by simp at hl;omega
  have i0:=mJ (c::(m++[z])) c rfl;have i1:=iV (c::(m++[z])) (m.length+1) z (by simp);rw[show((m.length+1:Nat):Int)=(n:Int)-1 by omega]at i1;have gl:(c::(m++[z])).getLast?=some z:=Em _ _ _
  by_cases hc:c=91
  ·by_cases hz:z=93
   ·subst hc;subst hz
    have sl:=wC (91::(m++[93])) 1 (m.length+1) (by omega) (by simp);have e2:((91::(m++[93])).take (m.length+1)).drop 1=m:=by simp
    rw[e2,show((m.length+1:Nat):Int)=(n:Int)-1 by omega,show((1:Nat):Int)=1 by rfl]at sl;have HO:=hid (af0 (s:=91::(m++[93])) rfl);have hml:m.length<=1000000:=by simp at hl;omega
    have TR:=hid (fun w=>uu m (by omega) w);have htl:=j3 m;have NM:=hid (fun w=>Rv (ah m) (by omega) w);have y1:(((91:UInt8).toNat:Int) != 91)=false:=by decide
    have y2:(((93:UInt8).toNat:Int) != 93)=false:=by decide
    have HT:=hid (show(ah m).length<=1000000 by omega);generalize ah m=t at*;generalize az t=b at*;clear hl h2 hsz fC e2 gl;go_in;go_wp2_with fail;refine(TR.out _).mono ?_;rintro e w1 ⟨rfl,E⟩
    go_wp2_with (go_at_call 177;refine(NM.out _).mono ?_;rintro e w' ⟨rfl,rfl⟩)
    go_ret2
    exact⟨t,b,rfl,HO.out,HT.out,E⟩
   ·have HO:=hid (Ko (s:=c::(m++[z])) (fun h=>hz (by rw[gl]at h;simpa using h.2.2)))
    have y2:((z.toNat:Int) != 93)=true:=uy z 93 hz;subst hc;have y1:(((91:UInt8).toNat:Int) != 91)=false:=by decide
    clear hl h2 hsz fC gl hz;go_in;go_wp2_with fail
    go_ret2
    exact⟨[],false,rfl,HO.out,by simp,aN⟩
  ·have HO:=hid (Ko (s:=c::(m++[z])) (fun h=>hc (by simpa using h.2.1)))
   have y1:((c.toNat:Int) != 91)=true:=uy c 91 hc;clear hl h2 hsz fC gl hc;go_in;go_wp2_with fail
   go_ret2
   exact⟨[],false,rfl,HO.out,by simp,aN⟩
 ·have HO:=hid (Ko (s:=s) (fun h=>h2 h.1))
  obtain⟨n,hn⟩: ∃n,(tx s).size=n:=⟨_,rfl⟩;have zl:decide ((n:Int)<2)=true:=by rw[<-hn,hsz];simp;omega
  clear hl h2 hsz;go_in;go_wp2_with fail
  go_ret2
  exact⟨[],false,rfl,HO.out,by simp,aN⟩
def Ya(r:Option Ins)(w:World)(e:Ending)(w':World):Prop:= ∃op d a ag loc ok,e= .returned (.tuple #[.agg #[.int .i64 op,.int .i64 d,.int .i64 a,.int .i64 0,.int .i64 ag,.string (tx loc),.string ⟨#[]⟩,.int .i64 0],.bool ok])/\dr r ⟨op,d,a,0,ag,loc,[],0⟩ ok/\loc.length<=1000000/\Below w.heap.size w w'
theorem iq:tx []=⟨#[]⟩:=rfl
theorem Ur(l:Tx)(c:UInt8):Lib.hasPrefix l [c]=(l.head?==some c):=by
 unfold Lib.hasPrefix;cases l with
 |nil=>rfl
 |cons d r=>show(c==d&&true)=(d==c);rw[Bool.and_true,Bool.eq_iff_iff,beq_iff_eq,beq_iff_eq];exact eq_comm
theorem aeM{x0 fr x r1:Tx}(qh:fr.drop 1=r1){v:Int}{ok:Bool}(hp:fQ x0=some x)(h:fr.head?=some 36)(hn:dr (cD r1) v ok):dr (iD x0 fr) ⟨1,0,0,0,v,x,[],0⟩ ok:=by
 subst qh;unfold iD;rw[hp];simp only[h,if_true];unfold dr at *; rw[hn];cases ok<;>rfl
theorem aeN{x0 fr x:Tx}(hp:fQ x0=some x)(h:fr.head?≠some 36):dr (iD x0 fr) ⟨2,0,(sw (cU fr)).1,0,0,x,[],0⟩ ((sw (cU fr)).2==0):=by
 unfold iD;rw[hp];simp only[h,if_false];unfold dr;cases cU fr<;>rfl
theorem aeQ{x0 fr:Tx}(hp:fQ x0=none)(hr:cU x0=none):iD x0 fr=none:=by unfold iD;rw[hp,hr]
theorem aeP{x0 fr r1:Tx}(qh:fr.drop 1=r1){d:Nat}{v:Int}{ok:Bool}(hp:fQ x0=none)(hr:cU x0=some d)(h:fr.head?=some 36)(hn:dr (cD r1) v ok):dr (iD x0 fr) ⟨4,d,0,0,v,[],[],0⟩ ok:=by
 subst qh;unfold iD;rw[hp,hr];simp only[h,if_true];unfold dr at *; rw[hn];cases ok<;>rfl
theorem aeO{x0 fr x:Tx}{d:Nat}{ok:Bool}(hp:fQ x0=none)(hr:cU x0=some d)(h:fr.head?≠some 36)(hn:dr (fQ fr) x ok):dr (iD x0 fr) ⟨3,d,0,0,0,x,[],0⟩ ok:=by
 unfold iD;rw[hp,hr];simp only[h,if_false];unfold dr at *; rw[hn];cases ok<;>rfl
theorem adk(x0 fr:Tx)(h1:x0.length<=1000000)(h2:fr.length<=1000000)(w:World)(g:Gl w):Calls prog 96 #[.string (tx x0),.string (tx fr)] w (Ya (iD x0 fr) w):=by
 have g0:=g.below (al w fS);have PT:=hid (fun w=>Rw x0 h1 w);have PF:=hid (fun w=>Rw fr h2 w);have RT:=hid (fun(w:World) (g:Gl w)=>Jz x0 w g);have RF:=hid (fun(w:World) (g:Gl w)=>Jz fr w g);have NF:=hid (fun(w:World) (g:Gl w)=>adl (fr.drop 1) (by simp;omega) w g);have PR:=hid (fun w=>qE fr [36] w);rw[Ur]at PR;have HF:=hid h2
 have Gj:=hid (show fr.head?=some 36-> ∀w,(Instr.sliceAt 9 (.string (tx fr)) (some (.int .i64 1)) none none).run prog w= .ok (.string (tx (fr.drop 1))) w from fun h=>wB fr 1 (by cases fr with
  |nil=>cases h
  |cons a b=>simp))
 obtain⟨r1,qh⟩: ∃r1,fr.drop 1=r1:=⟨_,rfl⟩;have Mp:=hid qh;rw[qh]at Gj NF;clear h1 h2 g qh;go_in;go_wp2_with fail;refine(PT.out _).mono ?_;rintro e w1 ⟨u,ok,rfl,ho,ez,E⟩;have HO:=hid ho;have g1:=g0.below E;have HU:=hid ez;clear ho ez g0;cases ok with
 | true=>
   by_cases iP:fr.head?=some 36
   ·have sf:=Gj.out iP
    have HR:=hid (fun v ok=>aeM Mp.out (v:=v) (ok:=ok) HO.out.yes iP);rw[show(fr.head?==some 36)=true by rw[iP];rfl]at PR;clear iP;go_wp2_with fail;refine(PR.out _).mono ?_;rintro e w2 ⟨rfl,E2⟩;have g2:=g1.below E2;have E:=ay E E2;go_wp2_with fail;refine(NF.out _ g2).mono ?_;rintro e w3 ⟨v,ok,rfl,hn,E3⟩;have HN:=hid hn;have E:=ay E E3;obtain⟨⟨d0,d1,d2,d3,d4,d5,d6,d7⟩,hf,hlt,B⟩:=dX E;clear hn E g1 g2;go_wp2_with fail;exact bodyPost_ret (by simp[results,results96,go_sem,d0,d1,d2,d3,d4,d5,d6,d7]) rfl ⟨1,0,0,v,u,ok,rfl,HR.out _ _ HN.out,HU.out,aK⟩
   ·have HR:=hid (aeN HO.out.yes iP)
    rw[show(fr.head?==some 36)=false by simpa using iP]at PR;generalize sw (cU fr)=p at*;clear iP;go_wp2_with fail;refine(PR.out _).mono ?_;rintro e w2 ⟨rfl,E2⟩;have g2:=g1.below E2;have E:=ay E E2;go_wp2_with fail;refine(RF.out _ g2).mono ?_;rintro e w3 ⟨rfl,rfl⟩;obtain⟨⟨d0,d1,d2,d3,d4,d5,d6,d7⟩,hf,hlt,B⟩:=dX E;clear E g1 g2;go_wp2_with fail;exact bodyPost_ret (by simp[results,results96,go_sem,d0,d1,d2,d3,d4,d5,d6,d7]) rfl ⟨2,0,p.1,0,u,_,rfl,HR.out,HU.out,aK⟩
 | false=>
   go_wp2_with fail;refine(RT.out _ g1).mono ?_;rintro e w2 ⟨rfl,rfl⟩;cases hr:cU x0 with
   | none=>
     have HR:=hid (aeQ (fr:=fr) HO.out.no hr);simp only[sw];obtain⟨⟨d0,d1,d2,d3,d4,d5,d6,d7⟩,hf,hlt,B⟩:=dX E;clear E g1 hr;go_wp2_with fail;exact bodyPost_ret (by simp[results,results96,go_sem,d0,d1,d2,d3,d4,d5,d6,d7,iq]) rfl ⟨0,0,0,0,[],false,rfl,HR.out,by simp,aK⟩
   | some d=>
     simp only[sw]
     by_cases iP:fr.head?=some 36
     ·have sf:=Gj.out iP
      have HR:=hid (fun v ok=>aeP Mp.out (v:=v) (ok:=ok) HO.out.no hr iP);rw[show(fr.head?==some 36)=true by rw[iP];rfl]at PR;clear iP hr;go_wp2_with fail;refine(PR.out _).mono ?_;rintro e w2 ⟨rfl,E2⟩;have g2:=g1.below E2;have E:=ay E E2;go_wp2_with fail;refine(NF.out _ g2).mono ?_;rintro e w3 ⟨v,ok,rfl,hn,E3⟩;have HN:=hid hn;have E:=ay E E3;obtain⟨⟨d0,d1,d2,d3,d4,d5,d6,d7⟩,hf,hlt,B⟩:=dX E;clear hn E g1 g2;go_wp2_with fail;exact bodyPost_ret (by simp[results,results96,go_sem,d0,d1,d2,d3,d4,d5,d6,d7,iq]) rfl ⟨4,d,0,v,[],ok,rfl,HR.out _ _ HN.out,by simp,aK⟩
     ·have HR:=hid (fun x ok=>aeO (x:=x) (ok:=ok) HO.out.no hr iP)
      rw[show(fr.head?==some 36)=false by simpa using iP]at PR;clear iP hr;go_wp2_with fail;refine(PR.out _).mono ?_;rintro e w2 ⟨rfl,E2⟩;have E:=ay E E2;go_wp2_with fail;refine(PF.out _).mono ?_;rintro e w3 ⟨x,ok,rfl,hn,hx,E3⟩;have HN:=hid hn;have HX:=hid hx;have E:=ay E E3;obtain⟨⟨d0,d1,d2,d3,d4,d5,d6,d7⟩,hf,hlt,B⟩:=dX E;clear hn hx E g1;go_wp2_with fail;exact bodyPost_ret (by simp[results,results96,go_sem,d0,d1,d2,d3,d4,d5,d6,d7]) rfl ⟨3,d,0,0,x,ok,rfl,HR.out _ _ HN.out,HX.out,aK⟩
end Go.Proofs.YtkbbgjloifmmbaaGreatDoor
