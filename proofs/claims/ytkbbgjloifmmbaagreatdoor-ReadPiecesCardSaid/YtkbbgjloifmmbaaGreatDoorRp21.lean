/- What ReadPiecesP leans on, part 21. -/
import Derived.Test.YtkbbgjloifmmbaaGreatDoorRp17
import Derived.Test.YtkbbgjloifmmbaaGreatDoorRp20
import Derived.Deep.RegionLaw
set_option linter.unusedVariables false
set_option maxRecDepth 100000
set_option maxHeartbeats 12800000
namespace Go.Proofs.YtkbbgjloifmmbaaGreatDoor
open Go.RowKit Go.Sort
theorem step_app2{P:Program}{t e:TypeId}{z:Value}{size bytes:Nat}(T:ElT P t e z size bytes){ops:Array Oper}{o:Oper}{f:Act}{K:Act->World->Prop}{Q:Exit->Act->World->Prop}{E:Prop}{w:World}(s x:Operand)(hgd:o.guard=none)(ho:o.op= .call { callee:=.builtin .append,args:=#[s,x],argTypes:=#[t,t] })
 {B n c:Nat} {sa:Option Addr} {xs:List Value} (hs:f.eval s= .slice sa n c) (hown:Own w B e size sa n c xs)
 {xa:Option Addr} {m xc:Nat} {ys:List Value} (hx:f.eval x= .slice xa m xc) (hrow:Row w xa ys) (hl:ys.length=m*size) (h1c: ∀u∈ys,u.oneCell'=true)
 (hB0:B<=w.heap.size) (hbytes:(n+m)*bytes<=140737488355328) (hm:n+m<=maxLen)
 (h: ∀a' c' w',Own w' B e size a' (n+m) c' (xs++ys)->Grew w w' sa c a' c'->K (f.put o.dst (.slice a' (n+m) c')) w'):if Region.wanted o (yielded ops f.tmps)=true then Oper.wp P o f w K Q else E:=by
 have hw:Region.wanted o (yielded ops f.tmps)=true:=by simp[Region.wanted,hgd]
 rw[if_pos hw];obtain⟨a',c',w',hrun,h1,h2⟩:=run_app T o.type hown (xc:=xc) hrow hl h1c hbytes hm hB0;unfold Oper.wp execOp;simp only[ho,resolve,invoke,builtin,Sem.run_bind,Sem.run_pure,Result.andThen_ok,List.map_toArray,List.map_cons,List.map_nil,hs,hx,hrun];exact h a' c' w' h1 h2
abbrev OwnIni(w:World)(B:Nat)(a:Option Addr)(n c:Nat)(l:List Ini):Prop:=Own w B 56 5 a n c (flat cIni l)
def RetIns(p:EP (List Ini × Tx))(w1 w:World)(s:Tx)(t:Tst)(e:Ending)(w':World):Prop:=Below w1.heap.size w1 w'/\((∃er k,p= .error (er,k)/\e=PanS er k)\/(∃l r1 k' a c,p= .ok (l,r1)/\s.drop k'=r1/\e= .returned (.tuple #[])/\St w w' w1.heap.size/\RdS w1 w' s k' { t with ia:=a,ic:=c,init:=l }/\OwnIni w' w.heap.size a l.length c l))
theorem initsP_no{arch:Int}{N:Nat}{r:Tx}(h:(sgnL r).head?≠some 123\/(125:UInt8)∉sgnL r):initsP arch N r= .error (140,plc N (sgnL r)):=by
 unfold initsP;dsimp only;rw[if_pos h]
theorem initsP_in{arch:Int}{N:Nat}{r v:Tx}(h:sgnL r=123::v)(h2:(125:UInt8)∈v):initsP arch N r=match partsP arch N (splitC 59 (v.takeWhile (· != 125))) v []with
 | .error e=>.error e
 | .ok l=>.ok (l,(v.dropWhile (· != 125)).drop 1):=by
 unfold initsP;dsimp only;rw[h,if_neg (by rintro(f|f);exact f rfl;exact f (List.mem_cons_of_mem _ h2)),List.takeWhile_cons_of_pos (by decide),List.dropWhile_cons_of_pos (by decide)];rfl
def partsJ(W:Tx):List Tx->Tx
 |[]=>W
 |[p]=>p++W
 |p::L=>p++59::partsJ W L
theorem partsJ_split(W:Tx): ∀A:Tx,partsJ W (splitC 59 A)=A++W
 |[]=>rfl
 | c::A=>by
   have ih:=partsJ_split W A;cases h:c==59 with
   | true=>
     obtain rfl:c=59:=by simpa using h
     rw[splitC,if_pos h];cases e:splitC 59 A with
     |nil=>exact absurd e (splitC_ne 59 A)
     |cons x t=>rw[e]at ih;show[]++59::partsJ W (x::t)=_;rw[ih];rfl
   | false=>
     rw[splitC,if_neg (by rw[h];decide)];cases e:splitC 59 A with
     |nil=>exact absurd e (splitC_ne 59 A)
     | cons x t=>
       rw[e]at ih;cases t with
       |nil=>show(c::x)++W=_;rw[show c::A++W=c::(A++W)from rfl,<-ih];rfl
       |cons y t=>show(c::x)++59::partsJ W (y::t)=_;rw[show c::A++W=c::(A++W)from rfl,<-ih];rfl
theorem partsJ_cons(W p:Tx)(L:List Tx)(hW:W≠[]): ∃d r,partsJ W (p::L)=p++d::r/\(L≠[]->r=partsJ W L):=by
 cases L with
 | nil=>
   cases W with
   |nil=>exact absurd rfl hW
   |cons d r=>exact⟨d,r,rfl,fun h=>absurd rfl h⟩
 |cons x L=>exact⟨59,partsJ W (x::L),rfl,fun _=>rfl⟩
theorem partsP_skip{arch:Int}{N:Nat}{p v:Tx}{L:List Tx}{acc:List Ini}(h:trimT p=[]):partsP arch N (p::L) v acc=partsP arch N L (v.drop (p.length+1)) acc:=by rw[partsP,if_pos h]
theorem partsP_bad{arch:Int}{N:Nat}{p v:Tx}{L:List Tx}{acc:List Ini}(h:trimT p≠[])(h2:initR arch p=none):partsP arch N (p::L) v acc= .error (140,plc N (sgnL v)):=by rw[partsP,if_neg h,h2]
theorem partsP_put{arch:Int}{N:Nat}{p v:Tx}{L:List Tx}{acc:List Ini}{x:Ini}(h:trimT p≠[])(h2:initR arch p=some x):partsP arch N (p::L) v acc=partsP arch N L (v.drop (p.length+1)) (acc++[x]):=by rw[partsP,if_neg h,h2]
theorem sgn_mid{p r:Tx}(h:trimT p≠[]):sgnL (p++r)=sgnL p++r:=by
 have:sgnL p≠[]:=fun e=>h ((trim_none' p).2 (dw_nil e))
 unfold sgnL at this⊢;rw[List.dropWhile_append,if_neg (by simpa using this)]
theorem noInit{t:Tst}(h:t.ia=none/\t.ic=0/\t.init=[]):{ t with ia:=none,ic:=0,init:=[] }=t:=by
 obtain⟨arch,name,cycle,ia,ic,init,ca,cc,code,q,node⟩:=t;obtain⟨h1,h2,h3⟩:=h;simp only at h1 h2 h3;subst h1;subst h2;subst h3;rfl
theorem splitC_mem_len'(c:UInt8): ∀(s:Tx),∀m∈splitC c s,m.length<=s.length
 |[],m,h=>by rcases List.mem_singleton.1 h with rfl;exact Nat.le_refl _
 | d::s,m,h=>by
   have ih:=splitC_mem_len' c s;cases hd:d==c with
   | true=>
     rw[splitC,if_pos hd]at h;rcases List.mem_cons.1 h with rfl|h
     ·simp
     ·have:=ih m h;simp;omega
   | false=>
     rw[splitC,if_neg (by rw[hd];decide)]at h;cases e:splitC c s with
     |nil=>exact absurd e (splitC_ne c s)
     | cons x t=>
       rw[e]at h;rcases List.mem_cons.1 h with rfl|h
       ·have:=ih x (by rw[e];simp);simp;omega
       ·have:=ih m (by rw[e];simp[h]);simp;omega
theorem BxL.gr{w w1 w2:World}{b:Nat}{l:List Value}{r:Option Nat}(h:BxL w b l)(hb:Below w.heap.size w w1)(hg:w1.grownBy w2 r)(hr: ∀c,r=some c->c≠b):BxL w2 b l:=by
 have h1:=h.below hb;refine⟨Nat.lt_of_lt_of_le h1.1 hg.size,fun j hj=>?_⟩;have h2:=h1.2 j hj;rw[List.getElem?_eq_getElem hj]at h2⊢;refine hg.cell h2 ?_;cases r with
 |none=>simp
 |some c=>have:=hr c rfl;simpa using fun e=>this e.symm
theorem row_lit5(w:World)(x:Ini)(T:TypeId):Row (w.alloc (.cells #[.int .i64 x.thread,.int .i64 x.reg,.string (tx x.loc),.string (tx x.vloc),.int .i64 x.n] T)) (Option.some ⟨w.heap.size,0,none⟩) (cIni x):=by
 have b:=BxL.new w #[.int .i64 x.thread,.int .i64 x.reg,.string (tx x.loc),.string (tx x.vloc),.int .i64 x.n] T;refine⟨fun _=>rfl,fun i hi=>?_⟩;simp
theorem part_at{N:Nat}{p r:Tx}{d:UInt8}(h:trimT p≠[])(hN:(p++d::r).length<=N):((N-(p++d::r).length:Nat):Int)+((p.length-(sgnL p).length:Nat):Int)=(plc N (sgnL (p++d::r)):Nat):=by
 rw[sgn_mid h];unfold plc;have:=(List.dropWhile_suffix (l:=p) blankC).length_le;unfold sgnL;simp only[List.length_append,List.length_cons]at hN⊢;omega
theorem pans_eq{er:Int}{k:Nat}{i:Int}(h:i=(k:Int)):Ending.panicked [{ v:=.iface 65 (.agg #[.int .i64 er,.int .i64 i]),recovered:=false }]=PanS er k:=by subst h;rfl
theorem St.app{w wi w':World}{rb:Nat}{B n m c c':Nat}{E size:Nat}{a a':Option Addr}{xs:List Value}(h:St w wi rb)(ho:Own wi B E size a n c xs)(hB:w.heap.size<=B)(hg:Grew wi w' a c a' c'):St w w' rb:=by
 refine⟨?_,.inl rfl⟩;have g:=hg.step.grown;refine⟨g.os.trans h.grown.os,g.tape.trans h.grown.tape,g.output.trans h.grown.output,Nat.le_trans h.grown.size g.size,fun k hk hne=>?_⟩;rw[g.block k (Nat.lt_of_lt_of_le hk h.grown.size) ?_]
 ·exact h.grown.block k hk hne
 ·cases a with
  |none=>simp
  | some x=>
    have:=(Own.lt ho (by simp)).1;simp[bk]at this ⊢; omega
theorem readInits{w1 w:World}{s:Tx}{k:Nat}{t:Tst}(R:RdS w1 w s k t)(ha:archB t.arch=true)(h0:t.ia=none/\t.ic=0/\t.init=[]):Calls Tryz.prog 29 #[.pointer (some ⟨w1.heap.size,0,none⟩)] w (RetIns (initsP t.arch s.length (s.drop k)) w1 w s t):=by
 have c0:=R.bx.get 0 _ rfl;have c1:=R.bx.get 1 _ rfl;have hl:=R.sl;have PK:=hid (readPeek s w1.heap.size k R.le R.sl w c0 c1);have FL:=hid (fun p er k w=>readFail p er k w);have HR:=hid R;obtain⟨u,hu⟩: ∃u,sgnL (s.drop k)=u:=⟨_,rfl⟩;obtain⟨N,hN⟩: ∃N,s.length=N:=⟨_,rfl⟩;have P1:=hid (fun h=>initsP_no (arch:=t.arch) (N:=N) (r:=s.drop k) h);have P2:=hid (fun v h h2=>initsP_in (arch:=t.arch) (N:=N) (r:=s.drop k) (v:=v) h h2);rw[hu]at P1 P2;rw[hN]at PK⊢;have HN:=hid hN;generalize initsP t.arch N (s.drop k)=hp at*;clear c0 c1;go_enter Tryz.func29,Tryz.ntmps29;go_wp2_with fail;refine PK.out.mono ?_;rintro e w2 ⟨hv,E2⟩;unfold PeekV at hv;rw[hu]at hv;rcases hv with⟨h0u,rfl⟩|⟨b,h0u,hb,h10,hbl,rfl⟩
 ·have P1:=hid (P1.out (.inl (by rw[h0u];simp)))
  rw[h0u,plc_nil]at P1;have E:=hid E2;clear hu h0u E2;go_wp2_with fail;refine(FL.out _ _ _ _).mono ?_;rintro e w4 ⟨rfl,E4⟩;have E:=hid (ext_trans E.out E4);clear E4;go_wp2_with fail;exact⟨rfl,(HR.out.below E.out).bel,.inl ⟨_,_,P1.out,rfl⟩⟩
 ·obtain⟨c,hc⟩: ∃c,u.head?=some c:=by
   cases u with
   |nil=>exact absurd rfl h0u
   |cons c r=>exact⟨c,rfl⟩
  have hcb:blankC c=false:=head_dropWhile (l:=s.drop k) (p:=blankC) (by rw[show(s.drop k).dropWhile blankC=u from hu];exact hc);obtain⟨q1,q2,q3⟩:=line_trim hc hcb hb;have hul:u.length<=N:=by rw[<-hu,<-hN];have:=(sgn_suf' (s.drop k)).length_le;have:=List.length_drop (i:=k) (l:=s);omega
  have hin:b.length+u.length<=N:=by unfold plc at hbl;omega
  have hlen:(b++u.takeWhile (· != 10)).length<=262144:=by have:=takeWhile_le (· != 10) u;rw[List.length_append];omega
  have TR:=hid (fun w=>readTrim (b++u.takeWhile (· != 10)) (by omega) w);rw[q1]at TR
  obtain⟨r0,hr0⟩: ∃r0,lineL u=c::r0:=by
   cases hlu:lineL u with
   |nil=>rw[hlu]at q3;cases q3
   |cons d r0=>rw[hlu]at q3;exact⟨r0,by rw[show d=c from Option.some.inj q3]⟩
  rw[hr0]at TR;have i0:=run_ixz (c::r0) c rfl;generalize b++u.takeWhile (· != 10)=ln at*;have E2:=hid E2;clear q1 q2 q3 hr0 hin hlen hb h10 hbl;go_wp2_with fail;refine(TR.out _).mono ?_;rintro e w3 ⟨rfl,E3⟩;have E:=hid (ext_trans E2.out E3);clear E3
  by_cases hc123:c=123
  ·subst hc123
   have y0:(((123:UInt8).toNat:Int) != 123)=false:=by decide
   obtain⟨v,rfl⟩: ∃v,u=123::v:=by
    cases u with
    |nil=>exact absurd rfl h0u
    |cons d v=>exact⟨v,by rw[show d=123 from Option.some.inj hc]⟩
   have hsd:s.drop (N-(v.length+1))=123::v:=by
    have:=drop_suf (s:=s) (u:=123::v) (k:=k) (by rw[<-hu];exact sgn_suf' _);rw[hN]at this;exact this
   have hpl:plc N (123::v)=N-(v.length+1):=rfl;rw[hpl]at*;have hvN:v.length+1<=N:=hul;have R3:=HR.out.below E.out;have e0:=R3.bx.get 0 _ rfl;have hrb:=R3.lt;have sl:=run_strfrom2 s (N-(v.length+1)) (by omega);rw[hsd]at sl;have IB:=hid (fun w=>indexByte_w (123::v) 125 w);obtain⟨i1,i2⟩:=indexByte_tw 125 (123::v)
   by_cases h125:(125:UInt8)∈v
   ·obtain⟨A,hA⟩: ∃A,v.takeWhile (· != 125)=A:=⟨_,rfl⟩
    obtain⟨Y,hY⟩: ∃Y,v.dropWhile (· != 125)=125::Y:=by
     cases hd:v.dropWhile (· != 125)with
     |nil=>exact absurd (dw_nil hd 125 h125) (by simp)
     | cons d Y=>
       have:=head_dropWhile (l:=v) (p:=(· != 125)) (c:=d) (by rw[hd];rfl);have:d=125:=by simpa using this
       subst this;exact⟨Y,rfl⟩
    have hv:v=A++125::Y:=by rw[<-hA,<-hY];exact(List.takeWhile_append_dropWhile ..).symm
    have e8:=i2 (List.mem_cons_of_mem _ h125);rw[List.takeWhile_cons_of_pos (p:=fun x=>x != 125) (by decide),hA]at e8;obtain⟨q8,hq8⟩: ∃q8,(123::A).length=q8:=⟨_,rfl⟩;rw[hq8]at e8;have hqA:q8=A.length+1:=by rw[<-hq8];rfl
    have IB:=hid (fun w=>e8▸IB.out w);have P2:=hid (P2.out v rfl h125);rw[hA,hY,List.drop_one,List.tail_cons]at P2;have hvl:v.length=A.length+Y.length+1:=by rw[hv];simp;omega
    generalize hp0:N-(v.length+1)=p0 at*;have hp0N:p0+v.length+1=N:=by omega
    have hN2:N<=262144:=by rw[<-hN];exact hl
    have z8:decide ((q8:Int)<0)=false:=by simp
    have sl2: ∀w,(Instr.sliceAt 9 (.string (tx s)) (some (.int .i64 ((p0:Int)+1))) (some (.int .i64 ((p0:Int)+(q8:Int)))) none).run Tryz.prog w= .ok (.string (tx A)) w:=by
     have:=run_strsl s (p0+1) (p0+q8) (by omega) (by omega)
     have e:(s.take (p0+q8)).drop (p0+1)=A:=by
      rw[List.drop_take,show p0+q8-(p0+1)=A.length by omega,<-List.drop_drop,hsd];show(v.take A.length)=A;rw[hv];simp
     rw[e,show((p0+1:Nat):Int)=(p0:Int)+1 by omega,show((p0+q8:Nat):Int)=(p0:Int)+(q8:Int) by omega]at this;exact this
    have hY2:s.drop (p0+q8+1)=Y:=by
     rw[show p0+q8+1=p0+(q8+1) by omega,<-List.drop_drop,hsd,hqA];show v.drop (A.length+1)=Y;rw[hv,<-List.drop_drop];simp
    have SP:=hid (fun w g=>split_own A 59 (by omega) w g);have hJ:=partsJ_split (125::Y) A;rw[<-hv]at hJ;have hne:=splitC_ne 59 A;have hpl2: ∀p∈splitC 59 A,p.length<=262144:=fun p hp=>by have:=splitC_mem_len' 59 A p hp;omega
    have hLn:=splitC_length_le 59 A;generalize splitC 59 A=L at*;obtain⟨n,hn⟩: ∃n,L.length=n:=⟨_,rfl⟩;rw[hn]at SP hLn;have hnl:n<=262145:=by omega
    have HLn:=hid hn;have HPL:=hid hpl2;have HJ:=hid hJ;have HSD:=hid hsd;have HNE:=hid hne;have g4:=HR.out.g.below E.out;have HK2:=hid hY2;have hk2:p0+q8+1<=N:=by omega
    have hn0:n≠0:=fun h=>hne (List.length_eq_zero_iff.1 (hn.trans h))
    have HT0:=hid (noInit h0);clear hu i1 i2 e8 h125 hsd R3 P1 hc h0u hA hY hv hq8 hvl hY2 hJ hne hpl2 hn hLn hpl hul hvN hp0 h0 hqA
    go_wp2_with (first|(go_at_call 78;refine(IB.out _).mono ?_;rintro e w' ⟨rfl,rfl⟩)|fail)
    refine(SP.out _ g4).mono ?_;rintro e w4 ⟨a,rfl,oA,T,E4⟩;have hab2:w3.heap.size<=bk a:=(Own.lt oA (Own.some oA (by omega))).1;clear oA;have E:=hid (ext_trans E.out E4)
    have hab:bk a<w4.heap.size:=by
     have:=Row.lt T.row (by intro h;apply hn0;rw[<-HLn.out];simpa using congrArg List.length h);exact this
    have ST0:=hid (step_below (bw:=w1.heap.size) E.out);have R4:=hid (show RdS w1 w4 s k { t with ia:=none,ic:=0,init:=[] } by rw[HT0.out];exact HR.out.below E.out);have T:=hid T;obtain⟨pp,hpp⟩: ∃pp,partsP t.arch N L v []=pp:=⟨_,rfl⟩;rw[hpp]at P2;have HPP:=hid hpp;have hsz4:=E.out.size;clear E4 e0 hpp g4 ST0;go_wp2_with fail
    go_loopw [7,55] (fun f i wi=> ∃(m:Nat) (acc:List Ini) (ia:Option Addr) (ic:Nat) (x:Tx),i= .int .i64 m/\m<=n/\f= .int .i64 (N-x.length:Nat)/\x.length<=N/\acc.length<=m/\Hid (m<n->x=partsJ (125::Y) (L.drop m))/\Hid (pp=partsP t.arch N (L.drop m) x acc)/\Hid (RdS w1 wi s k { t with ia:=ia,ic:=ic,init:=acc })/\Hid (OwnIni wi w4.heap.size ia acc.length ic acc)/\Hid (St w wi w1.heap.size)/\Hid (Txs wi a L)/\w4.heap.size<=wi.heap.size) (fun _ i _=>n-(intOf i).toNat)
    case atStart=>
     refine⟨0,[],none,0,v,rfl,Nat.zero_le _,?_,by omega,Nat.le_refl _,hid fun _=>by rw[List.drop_zero];exact HJ.out.symm,hid (by rw[List.drop_zero];exact HPP.out.symm),R4,hid (Own.nil _ _ _ _),hid (step_below E.out),T,Nat.le_refl _⟩
     congr 1;omega
    case round=>
     obtain⟨m,acc,ia,ic,x,rfl,hmn,rfl,hxN,hacm,HX,HP,RR,OO,SS,TT,hB4⟩:=hrel
     by_cases hlt:m<n
     ·obtain⟨p,hpm⟩: ∃p,L[m]? =some p:=⟨_,List.getElem?_eq_getElem (by rw[HLn.out];exact hlt)⟩
      have hdr:L.drop m=p::L.drop (m+1):=by
       obtain⟨h1,h2⟩:=List.getElem?_eq_some_iff.1 hpm;rw[List.drop_eq_getElem_cons h1,h2]
      have ix:=TT.out.idx m (by rw[HLn.out];exact hlt) n;rw[HLn.out]at ix;have cl:=TT.out.cell m (by rw[HLn.out];exact hlt);rw[(List.getElem?_eq_some_iff.1 hpm).2]at cl;obtain⟨d,r,ex,er⟩:=partsJ_cons (125::Y) p (L.drop (m+1)) (by simp);have hx:=HX.out hlt;rw[hdr,ex]at hx;have hxl:x.length=p.length+1+r.length:=by rw[hx];simp;omega
      have hxd:x.drop (p.length+1)=r:=by rw[hx,<-List.drop_drop];simp
      have hpll:p.length<=262144:=by omega
      have HX2:=hid (show m+1<n->r=partsJ (125::Y) (L.drop (m+1))from fun h=>er (fun e=>by
       have:=congrArg List.length e;rw[List.length_drop,HLn.out]at this;simp at this;omega))
      have TP:=hid (fun w=>readTrim p (by omega) w);obtain⟨pl,hpl⟩: ∃pl,(tx p).size=pl:=⟨_,rfl⟩;have hpl2:pl=p.length:=by rw[<-hpl,tx_size]
      have hplb:pl<=262144:=by omega
      have hfr:((N-x.length:Nat):Int)+((pl:Int)+1)=((N-r.length:Nat):Int):=by omega
      have HFR:=hid hfr;have HXE:=hid hx;have zlt:decide ((m:Int)<(n:Int))=true:=by simp;omega
      have hrN:r.length<=N:=by omega
      have HNX:N-x.length<=262144:=by omega
      rw[hdr]at HP
      by_cases hb:trimT p=[]
      ·have HP2:=hid (show pp=partsP t.arch N (L.drop (m+1)) r acc by rw[HP.out,partsP_skip hb,hxd])
       rw[hb]at TP;have TP:=hid (fun w=>(show Ret w (.string (tx []))=Ret w (.string ⟨#[]⟩)from rfl)▸TP.out w);clear hpm hdr ex er hx hxl hxd hpl2 hfr hb HP HX;go_wp2_with fail;refine(TP.out _).mono ?_;rintro e w5 ⟨rfl,E5⟩;have RR:=hid (RR.out.below E5);have OO:=hid (Own.below OO.out E5);have SS:=hid (SS.out.trans (step_below (bw:=w1.heap.size) E5));have TT:=hid (TT.out.below E5);have hB5:=Nat.le_trans hB4 E5.size;clear E5 cl;go_wp2_with fail
       go_roundw
       case rel=>exact⟨m+1,acc,ia,ic,r,by go_num,by omega,by rw[HFR.out],hrN,by omega,HX2,HP2,RR,OO,SS,TT,hB5⟩
       case measure=>simp[intOf];omega
      ·obtain⟨tp,htp⟩: ∃tp,trimT p=tp:=⟨_,rfl⟩
       have zt:(tx tp).toList.isEmpty=false:=by
        rw[tx_toList,<-htp];cases e:trimT p with
        |nil=>exact absurd e hb
        |cons a b=>rfl
       rw[htp]at TP;have RI:=hid (fun w g=>readInit t.arch ha p (by omega) w g);have LD:=hid (fun w=>readLead p (by omega) w);cases hI:initR t.arch p with
       | none=>
         have PE:=hid (show hp= .error (140,plc N (sgnL x)) by rw[P2.out,HP.out,partsP_bad hb hI]);have hpa:=hid (show((N-x.length:Nat):Int)+((p.length-(sgnL p).length:Nat):Int)=(plc N (sgnL x):Nat) by rw[hx];exact part_at hb (by rw[<-hx];exact hxN));rw[hI]at RI;obtain⟨ld,hld⟩: ∃ld,p.length-(sgnL p).length=ld:=⟨_,rfl⟩;rw[hld]at LD hpa;have hldb:ld<=262144:=by omega
         clear hpm hdr ex er hx hxl hxd hpl2 hfr hb htp hI HP HX HX2;go_wp2_with fail;refine(TP.out _).mono ?_;rintro e w5 ⟨rfl,E5⟩;have RR5:=RR.out.below E5;have q2:=RR5.bx.get 2 _ rfl;have g5:=RR5.g;have hrb5:=RR5.lt;have E5:=hid E5;clear RR5 cl;go_wp2_with fail;refine(RI.out _ g5).mono ?_;rintro e w6 h;obtain⟨E6,rfl⟩:Below w5.heap.size w5 w6/\e= .returned (.tuple #[vIni ⟨0,0,[],[],0⟩,.int .i64 140]):=h;have E6:=hid (ext_trans E5.out E6);clear q2 g5 hrb5;go_wp2_with fail;refine(LD.out _).mono ?_;rintro e w7 ⟨rfl,E7⟩;have E7:=hid (ext_trans (ext_trans E6.out (al w6 _)) E7);go_wp2_with fail;refine(FL.out _ _ _ _).mono ?_;rintro e w8 ⟨rfl,E8⟩;have E8:=hid (ext_trans E7.out E8);go_wp2_with fail;exact⟨rfl,(RR.out.below E8.out).bel,.inl ⟨_,_,PE.out,pans_eq hpa.out⟩⟩
       | some y=>
         have HP2:=hid (show pp=partsP t.arch N (L.drop (m+1)) r (acc++[y]) by rw[HP.out,partsP_put hb hI,hxd]);rw[hI]at RI;obtain⟨th,rg,lc,vl,vn⟩:=y;clear hpm hdr ex er hx hxl hxd hpl2 hfr hb htp hI HP HX LD;go_wp2_with fail;refine(TP.out _).mono ?_;rintro e w5 ⟨rfl,E5⟩;have RR5:=RR.out.below E5;have q2:=RR5.bx.get 2 _ rfl;have g5:=RR5.g;have hrb5:=RR5.lt;have E5:=hid E5;clear RR5 cl;go_wp2_with fail;refine(RI.out _ g5).mono ?_;rintro e w6 h;obtain⟨E6,rfl⟩:Below w5.heap.size w5 w6/\e= .returned (.tuple #[vIni ⟨th,rg,lc,vl,vn⟩,.int .i64 0]):=h;have E6:=ext_trans E5.out E6;clear q2 g5 hrb5
         go_upto_region 14 with(fail)
         have XB:=BxL.new w6 #[.int .i64 th,.int .i64 rg,.string (tx lc),.string (tx vl),.int .i64 vn] 56;have EW:Below wr.heap.size wr (w6.alloc (.cells #[.int .i64 th,.int .i64 rg,.string (tx lc),.string (tx vl),.int .i64 vn] 56)):=ext_trans E6 (al w6 _);have hb9:w6.heap.size≠w1.heap.size:=by have:=RR.out.lt;have:=E6.size;omega
         have hb9':=hb9.symm;have hb9w:wr.heap.size<=w6.heap.size:=E6.size;generalize hW:w6.alloc (.cells #[.int .i64 th,.int .i64 rg,.string (tx lc),.string (tx vl),.int .i64 vn] 56)=W at*;generalize hb9e:w6.heap.size=b9 at*;have RW:=RR.out.below EW;have OW:=Own.below OO.out EW;have TW:=TT.out.below EW;have SW:=hid (SS.out.trans (step_below (bw:=w1.heap.size) EW));have x0:=XB.get 0 _ rfl;have x1:=XB.get 1 _ rfl;have x2:=XB.get 2 _ rfl;have x3:=XB.get 3 _ rfl;have x4:=XB.get 4 _ rfl;have q5:=RW.bx.get 5 _ rfl;have hf5:=RW.frz 5;have hrbW:=RW.lt;have hbW:=XB.1;have hw4W:w4.heap.size<=W.heap.size:=Nat.le_trans hB4 EW.size;have hacl:acc.length<=262145:=by omega
         have HRW:=hid RW;have HOW:=hid OW;have HTW:=hid TW
         have hiar: ∀b,ia.map (·.block)=some b->w1.heap.size<b:=fun b hb=>by
          cases ia with
          |none=>cases hb
          | some z=>
            have:=(Own.lt OW (by simp)).1;simp[bk]at hb this;have:=HR.out.lt;omega
         have hiab: ∀b,ia.map (·.block)=some b->b≠b9:=fun b hb=>by
          cases ia with
          |none=>cases hb
          | some z=>
            have h1:=(Own.lt OO.out (by simp)).2;simp[bk]at hb h1;omega
         have XBW:=hid XB;clear RW OW TW XB E5 EW hW;have HB7:=bel_drew (bel_alloc (Below.refl W.heap.size W) (.cells #[.int .i64 th,.int .i64 rg,.string (tx lc),.string (tx vl),.int .i64 vn] 56));have H7:=hid HB7;clear HB7
         go_region_law
          ((refine step_app2 inil (.tmp 85) (.tmp 87) (by rfl) (by rfl) (B:=w4.heap.size) (n:=acc.length) (c:=ic) (sa:=ia) (xs:=flat cIni acc) (by rfl) (Own.below HOW.out H7.out) (xa:=some ⟨W.heap.size,0,none⟩) (xc:=1) (m:=1) (ys:=cIni ⟨th,rg,lc,vl,vn⟩) (by rfl) ((row_lit5 W ⟨th,rg,lc,vl,vn⟩ _).below (below_drewN _ 1)) (by rfl) (cIni_one _) (Nat.le_trans hw4W H7.out.size) (by omega) (by unfold maxLen;omega) ?_
            intro a' c' w' ho hg;have hg7:=hid hg;have ho7:=hid ho;have R7:=(HRW.out.below H7.out).kept hg.step.grown hiar;have XW:=BxL.gr XBW.out H7.out hg.step.grown hiab;have q57:=R7.bx.get 5 _ rfl;have hf57:=R7.frz 5;have y0:=XW.get 0 _ rfl;have y1:=XW.get 1 _ rfl;have y2:=XW.get 2 _ rfl;have y3:=XW.get 3 _ rfl;have y4:=XW.get 4 _ rfl;have R7:=hid R7;clear ho hg XW))
         all_goals
          have R8:=R7.out.put 5 (.slice a' (acc.length+1) c') (k':=k) (t':={ t with ia:=a',ic:=c',init:=acc++[⟨th,rg,lc,vl,vn⟩] }) (by simp[rdF,cT]) (by have:=R7.out.le;omega);have OW7:=hid (Own.below HOW.out H7.out);have S7:=hid (St.app (m:=0) (SW.out.trans (step_below (bw:=w1.heap.size) H7.out)) OW7.out hsz4 hg7.out);have S8:=hid (S7.out.trans R8.2);have hz:=hg7.out.step.grown.size
          have O8:=hid (show OwnIni _ w4.heap.size a' (acc++[(⟨th,rg,lc,vl,vn⟩:Ini)]).length c' (acc++[(⟨th,rg,lc,vl,vn⟩:Ini)])from by
           have:=Own.kept ho7.out R8.2.grown (by
            by_cases h:a'=none
            ·exact .inl h
            ·have:=(Own.lt ho7.out h).1;have:=HR.out.lt;right;simp;omega)
           rw[List.length_append,OwnIni,flat_app,flat_one];exact this)
          have T8:=hid (show Txs _ a L from⟨Row.step (Row.step (HTW.out.below H7.out).row hg7.out.step (by
           by_cases h:ia=none
           ·exact .inr (.inl h)
           ·have:=(Own.lt OW7.out h).1;right;right;omega)) R8.2 (by right;right;have:=HR.out.lt;simp;omega),HTW.out.len⟩)
          have HB8:=Nat.le_trans hw4W (Nat.le_trans H7.out.size (Nat.le_trans hz R8.2.grown.size));replace R8:=hid R8.1;go_wp2_with fail
          go_roundw
          case rel=>exact⟨m+1,acc++[⟨th,rg,lc,vl,vn⟩],a',c',r,by go_num,by omega,by rw[HFR.out],hrN,by rw[List.length_append];simp;omega,HX2,HP2,R8,O8,S8,T8,HB8⟩
          case measure=>simp[intOf];omega
     ·obtain rfl:m=n:=by omega
      have HP2:=hid (show pp= .ok acc by rw[HP.out,List.drop_eq_nil_of_le (by rw[HLn.out];exact Nat.le_refl _)];rfl);have zn:decide ((m:Int)<(m:Int))=false:=by simp
      have R5:=RR.out;have q1:=R5.bx.get 1 _ rfl;have hf1:=R5.frz 1;have hrb5:=R5.lt;have R6:=R5.put 1 (.int .i64 (p0+q8+1:Nat)) (k':=p0+q8+1) (t':={ t with ia:=ia,ic:=ic,init:=acc }) rfl (by rw[HN.out];exact hk2);have ST:=hid (SS.out.trans R6.2)
      have OK:=hid (Own.kept (Own.mono OO.out hsz4) R6.2.grown (by
       by_cases h:ia=none
       ·exact .inl h
       ·have:=(Own.lt OO.out h).1;have:=HR.out.lt;right;simp;omega))
      have hcast:(p0:Int)+(q8:Int)+1=((p0+q8+1:Nat):Int):=by omega
      rw[<-hcast]at R6 ST OK;replace R6:=hid R6.1;clear R5 hcast;go_wp2_with fail
      go_end0
      exact⟨R6.out.bel,.inr ⟨acc,Y,_,ia,ic,by rw[P2.out,HP2.out],HK2.out,rfl,ST.out,R6.out,OK.out⟩⟩
   ·have e8:=i1 (by rw[List.mem_cons];rintro(f|f);(revert f;decide);exact h125 f)
    have IB:=hid (fun w=>e8▸IB.out w);have P1:=hid (P1.out (.inr (by rw[List.mem_cons];rintro(f|f);(revert f;decide);exact h125 f)));clear hu i1 i2 e8 h125 hsd R3 P2 hc h0u
    go_wp2_with (first|(go_at_call 78;refine(IB.out _).mono ?_;rintro e w' ⟨rfl,rfl⟩)|fail)
    refine(FL.out _ _ _ _).mono ?_;rintro e w4 ⟨rfl,E4⟩;have E:=hid (ext_trans E.out E4);clear E4;go_wp2_with fail;exact⟨rfl,(HR.out.below E.out).bel,.inl ⟨_,_,P1.out,rfl⟩⟩
  ·have P1:=hid (P1.out (.inl (by rw[hc];simpa using hc123)))
   have y0:((c.toNat:Int) != 123)=true:=u8_ne c 123 hc123;clear P2 hc123 hu hc;go_wp2_with fail;refine(FL.out _ _ _ _).mono ?_;rintro e w4 ⟨rfl,E4⟩;have E:=hid (ext_trans E.out E4);clear E4;go_wp2_with fail;exact⟨rfl,(HR.out.below E.out).bel,.inl ⟨_,_,P1.out,rfl⟩⟩
end Go.Proofs.YtkbbgjloifmmbaaGreatDoor
