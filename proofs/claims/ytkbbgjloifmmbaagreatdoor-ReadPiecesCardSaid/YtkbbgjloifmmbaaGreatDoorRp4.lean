/- What ReadPiecesP leans on, part 4. -/
import Derived.Test.YtkbbgjloifmmbaaGreatDoorRp3
import Derived.Lib.AtoiAll
set_option linter.unusedVariables false
set_option maxRecDepth 100000
set_option maxHeartbeats 6400000
namespace Go.Proofs.YtkbbgjloifmmbaaGreatDoor
open Go.RowKit
theorem tx_extract(l:Tx)(a b:Nat):(tx l).extract a b=tx ((l.take b).drop a):=by
 apply ByteArray.ext;simp[tx,List.extract_eq_take_drop,List.drop_take]
theorem run_strsl(l:Tx)(a b:Nat)(hab:a<=b)(hb:b<=l.length): ∀w,(Instr.sliceAt 9 (.string (tx l)) (some (.int .i64 a)) (some (.int .i64 b)) none).run Tryz.prog w= .ok (.string (tx ((l.take b).drop a))) w:=by
 intro w;have h1:=Tryz.underlying9;have hs:=tx_size l;have hkk:(0:Int)<=(a:Int)/\(a:Int)<=(b:Int):=by omega
 have hll:(0:Int)<=(b:Int)/\(b:Int)<=(l.length:Int):=by omega
 rw[<-tx_extract];simp[Instr.sliceAt,Instr.slice,Instr.sliceBounds,Instr.sliceBound,asIntOf,run_underlying h1,hs,hkk,hll,hab,hb]
theorem run_strto(l:Tx)(b:Nat)(hb:b<=l.length): ∀w,(Instr.sliceAt 9 (.string (tx l)) none (some (.int .i64 b)) none).run Tryz.prog w= .ok (.string (tx (l.take b))) w:=by
 intro w;have h1:=Tryz.underlying9;have hs:=tx_size l;have hll:(0:Int)<=(b:Int)/\(b:Int)<=(l.length:Int):=by omega
 have e:=tx_extract l 0 b;rw[List.drop_zero]at e;rw[<-e];simp[Instr.sliceAt,Instr.slice,Instr.sliceBounds,Instr.sliceBound,asIntOf,run_underlying h1,hs,hll,hb]
theorem run_strfrom(l:Tx)(a:Nat)(ha:a<=l.length): ∀w,(Instr.sliceAt 9 (.string (tx l)) (some (.int .i64 a)) none none).run Tryz.prog w= .ok (.string (tx (l.drop a))) w:=by
 intro w;have h1:=Tryz.underlying9;have hs:=tx_size l;have hkk:(0:Int)<=(a:Int)/\(a:Int)<=(l.length:Int):=by omega
 have e:=tx_extract l a l.length;rw[List.take_length]at e;rw[<-e];simp[Instr.sliceAt,Instr.slice,Instr.sliceBounds,Instr.sliceBound,asIntOf,run_underlying h1,hs,hkk,ha]
theorem trimT_length(l:Tx):(trimT l).length<=l.length:=by
 rw[trimT_eq];have h1:=(List.dropWhile_suffix (p:=blankC) (l:=(l.reverse.dropWhile blankC).reverse)).length_le;have h2:=(List.dropWhile_suffix (p:=blankC) (l:=l.reverse)).length_le;simp at h1 h2;omega
theorem progTrimmed(l:Tx)(hl:l.length<=9223372036854775807)(w:World):Calls Tryz.prog 98 #[.string (tx l)] w (Ret w (.string (tx (trimT l)))):=by
 have C:=hid (trim_any l hl);clear hl;go_enter Tryz.func98,Tryz.ntmps98;go_wp2_with fail;refine(C.out _).mono ?_;rintro x w1 ⟨rfl,E⟩;go_wp2_with fail;go_ret;exact⟨rfl,E⟩
theorem ret_ib{k:IntKind}{a b:Int}{p q:Bool}(h:a=b)(h':p=q):Ending.returned (.tuple #[.int k a,.bool p])= .returned (.tuple #[.int k b,.bool q]):=by rw[h,h']
def optN(o:Option Nat):Int:=match o with
 |some n=>n
 |none=>0
theorem regN_opt(s:Tx):regN s=optN (regOf s):=by unfold regN optN;rfl
theorem regE_opt(s:Tx):(regE s==0)=(regOf s).isSome:=by unfold regE;cases regOf s<;>rfl
theorem progRegister(l:Tx)(hl:l.length<=9223372036854775807)(w:World):Calls Tryz.prog 185 #[.string (tx l)] w (Ret w (.tuple #[.int .i64 (optN (regOf (trimT l))),.bool (regOf (trimT l)).isSome])):=by
 have C:=hid (progTrimmed l hl);have e1:=regN_opt (trimT l);have e2:=regE_opt (trimT l);generalize trimT l=t at*;have e2':=hid e2;have e1':=hid e1;clear e1 e2 hl;go_enter Tryz.func185,Tryz.ntmps185;go_wp2_with fail;refine(C.out _).mono ?_;rintro x w1 ⟨rfl,E⟩;go_wp2_with fail;refine(progRegOf t _).mono ?_;rintro x w2 ⟨rfl,rfl⟩;rw[e1'.out];go_wp2_with fail
 go_ret2
 exact⟨ret_ib rfl e2'.out,E⟩
theorem takeWhile_hit(c:UInt8): ∀l:Tx,c∈l->l[(l.takeWhile (· != c)).length]? =some c
 |[],h=>by simp at h
 | b::l,h=>by
   by_cases hb:b=c
   ·subst hb;simp
   ·have hm:c∈l:=by rcases List.mem_cons.1 h with e|e;exact absurd e.symm hb;exact e
    rw[List.takeWhile_cons,if_pos (by simpa using hb)];simpa using takeWhile_hit c l hm
theorem takeWhile_take(p:UInt8->Bool)(l:Tx):l.takeWhile p=l.take (l.takeWhile p).length:=(List.prefix_iff_eq_take.1 (List.takeWhile_prefix p))
theorem dropWhile_drop'(p:UInt8->Bool)(l:Tx):l.dropWhile p=l.drop (l.takeWhile p).length:=by
 have h:=List.takeWhile_append_dropWhile (p:=p) (l:=l);have h2:(l.takeWhile p++l.dropWhile p).drop (l.takeWhile p).length=l.dropWhile p:=List.drop_left' rfl;rw[h]at h2;exact h2.symm
theorem addr_miss{l:Tx}(h:(40:UInt8)∉trimT l):addrT l=none:=by
 unfold addrT;simp only;rw[if_neg (by simp[h])]
theorem addr_last{l:Tx}(h:((trimT l).getLast?==some 41)=false):addrT l=none:=by
 unfold addrT;simp only[h];simp
theorem addr_zero{l:Tx}(h:trimT ((trimT l).take ((trimT l).takeWhile (· != 40)).length)≠[48]):addrT l=none:=by
 unfold addrT;simp only;rw[<-takeWhile_take]at h;rw[if_neg (by simp[h])]
theorem addr_hit{l t:Tx}{k n:Nat}(ht:trimT l=t)(hk:(t.takeWhile (· != 40)).length=k)(hn:t.length=n)(h1:(40:UInt8)∈t)(h2:(t.getLast?==some 41)=true)(h3:trimT (t.take k)=[48]):
 addrT l=regOf (trimT ((t.take (n-1)).drop (k+1)))/\k+1<=n-1:=by
 subst ht hk hn;refine⟨?_,?_⟩
 ·unfold addrT;simp only
  rw[if_pos (by rw[<-takeWhile_take]at h3;simp[h1,h3];simpa using h2)];rw[dropWhile_drop',List.drop_drop,List.dropLast_eq_take,List.length_drop,List.drop_take]
  congr 3
  omega
 ·have hh:=takeWhile_hit 40 _ h1
  obtain⟨hlt,he⟩:=List.getElem?_eq_some_iff.1 hh;have hne:trimT l≠[]:=by intro e;rw[e]at h1;simp at h1
  rw[List.getLast?_eq_getElem?]at h2;simp at h2
  by_cases hk:((trimT l).takeWhile (· != 40)).length=(trimT l).length-1
  ·rw[hk]at hh;rw[hh]at h2;simp at h2
  ·omega
theorem progAddress(l:Tx)(hl:l.length<=9223372036854775807)(w:World):Calls Tryz.prog 250 #[.string (tx l)] w (Ret w (.tuple #[.int .i64 (optN (addrT l)),.bool (addrT l).isSome])):=by
 have C:=hid (progTrimmed l hl);have htl:=trimT_length l;obtain⟨t,ht⟩: ∃t,trimT l=t:=⟨_,rfl⟩;have HT:=hid ht;rw[ht]at htl C;have hb:t.length<=9223372036854775807:=by omega
 have SF:=hid (suffix_any t 41 hb);clear ht htl hl
 by_cases h1:(40:UInt8)∈t
 ·obtain⟨k,hk⟩: ∃k,(t.takeWhile (· != 40)).length=k:=⟨_,rfl⟩
  obtain⟨hi,hlt⟩:=indexByte_hit 40 t h1;rw[hk]at hi hlt;have IB:=hid (show ∀w,Calls Tryz.prog 78 #[.string (tx t),.int .u8 40] w fun e w'=>e= .returned (.int .i64 (k:Int))/\w=w' from by rw[<-hi];exact indexByte_any t);clear hi;have h0k: ¬((k:Int)<0):=by omega
  have hdk:decide ((k:Int)<0)=false:=by simp
  cases h2:(t.getLast?==some 41)
  ·have HA:=hid (addr_last (l:=l) (by rw[HT.out];exact h2))
   rw[HA.out];have H2:=hid h2;clear h2 HA;have hk':=hid hk;clear hk;go_enter Tryz.func250,Tryz.ntmps250;go_wp2_with fail;refine(C.out _).mono ?_;rintro x w1 ⟨rfl,E⟩;go_wp2_with fail;refine(IB.out _).mono ?_;rintro x w2 ⟨rfl,rfl⟩;go_wp2_with fail;refine(SF.out _).mono ?_;rintro x w2 ⟨rfl,rfl⟩;rw[H2.out];go_wp2_with fail
   go_ret2
   exact⟨rfl,E⟩
  ·have s1:=run_strto t k (by omega)
   have TK:=hid (progTrimmed (t.take k) (by simp;omega));have H2:=hid h2
   by_cases h3:trimT (t.take k)=[48]
   ·obtain⟨n,hn⟩: ∃n,t.length=n:=⟨_,rfl⟩
    obtain⟨ha,hkn⟩:=addr_hit HT.out hk hn h1 h2 h3;rw[ha];have hz:((tx (trimT (t.take k))).toList != [48])=false:=by rw[tx_toList,h3];rfl
    have hz2:((tx (trimT (t.take k))).toList==[48])=true:=by rw[tx_toList,h3];rfl
    have s2: ∀w,(Instr.sliceAt 9 (.string (tx t)) (some (.int .i64 ((k:Int)+1))) (some (.int .i64 ((n:Int)-1))) none).run Tryz.prog w= .ok (.string (tx ((t.take (n-1)).drop (k+1)))) w:=by
     have:=run_strsl t (k+1) (n-1) hkn (by omega)
     rwa[show((k+1:Nat):Int)=(k:Int)+1 from rfl,show((n-1:Nat):Int)=(n:Int)-1 by omega]at this
    have hsz:(tx t).size=n:=by rw[tx_size,hn]
    obtain⟨u,hu⟩: ∃u,(t.take (n-1)).drop (k+1)=u:=⟨_,rfl⟩;rw[hu]at s2⊢;have hul:u.length<=9223372036854775807:=by rw[<-hu];simp;omega
    have RG:=hid (progRegister u hul);obtain⟨v,hv⟩: ∃v,t.take k=v:=⟨_,rfl⟩;rw[hv]at s1 hz hz2 TK;have hn1:1<=n:=by omega
    have hnb:n<=9223372036854775807:=by omega
    clear ha hu hul hn h3 h2 h1 hv hb;have hk':=hid hk;clear hk;go_enter Tryz.func250,Tryz.ntmps250;go_wp2_with fail;refine(C.out _).mono ?_;rintro x w1 ⟨rfl,E⟩;go_wp2_with fail;refine(IB.out _).mono ?_;rintro x w2 ⟨rfl,rfl⟩;go_wp2_with fail;refine(SF.out _).mono ?_;rintro x w2 ⟨rfl,rfl⟩;rw[H2.out];go_wp2_with fail;refine(TK.out _).mono ?_;rintro x w3 ⟨rfl,E3⟩;have E:=ext_trans E E3;go_wp2_with fail;refine(RG.out _).mono ?_;rintro x w4 ⟨rfl,E4⟩;have E:=ext_trans E E4;go_wp2_with fail
    go_ret2
    exact⟨rfl,E⟩
   ·have HA:=hid (addr_zero (l:=l) (by rw[HT.out,hk];exact h3))
    rw[HA.out];have hz:((tx (trimT (t.take k))).toList != [48])=true:=by rw[tx_toList];simpa using h3
    have hz2:((tx (trimT (t.take k))).toList==[48])=false:=by rw[tx_toList];simpa using h3
    obtain⟨v,hv⟩: ∃v,t.take k=v:=⟨_,rfl⟩;rw[hv]at s1 hz hz2 TK;clear h3 h2 h1 hv HA;have hk':=hid hk;clear hk;go_enter Tryz.func250,Tryz.ntmps250;go_wp2_with fail;refine(C.out _).mono ?_;rintro x w1 ⟨rfl,E⟩;go_wp2_with fail;refine(IB.out _).mono ?_;rintro x w2 ⟨rfl,rfl⟩;go_wp2_with fail;refine(SF.out _).mono ?_;rintro x w2 ⟨rfl,rfl⟩;rw[H2.out];go_wp2_with fail;refine(TK.out _).mono ?_;rintro x w3 ⟨rfl,E3⟩;have E:=ext_trans E E3;go_wp2_with fail
    go_ret2
    exact⟨rfl,E⟩
 ·have HA:=hid (addr_miss (l:=l) (by rw[HT.out];exact h1))
  rw[HA.out];have IB:=hid (show ∀w,Calls Tryz.prog 78 #[.string (tx t),.int .u8 40] w fun e w'=>e= .returned (.int .i64 (-1))/\w=w' from by rw[<-indexByte_miss 40 t h1];exact indexByte_any t);clear h1 HA;go_enter Tryz.func250,Tryz.ntmps250;go_wp2_with fail;refine(C.out _).mono ?_;rintro x w1 ⟨rfl,E⟩;go_wp2_with fail;refine(IB.out _).mono ?_;rintro x w2 ⟨rfl,rfl⟩;go_wp2_with fail
  go_ret2
  exact⟨rfl,E⟩
end Go.Proofs.YtkbbgjloifmmbaaGreatDoor
namespace Go.Proofs.YtkbbgjloifmmbaaGreatDoor
theorem last_dropWhile{p:UInt8->Bool}{l:Tx}{c:UInt8}(h:(l.dropWhile p).getLast?=some c):l.getLast?=some c:=by
 obtain⟨t,ht⟩:=List.dropWhile_suffix p (l:=l);rw[<-ht,List.getLast?_append,h];rfl
theorem trimT_head{l:Tx}: ∀c,(trimT l).head?=some c->blankC c=false:=by
 intro c hc;rw[trimT_eq]at hc;exact head_dropWhile hc
theorem trimT_last{l:Tx}: ∀c,(trimT l).getLast?=some c->blankC c=false:=by
 intro c hc;rw[trimT_eq]at hc;have:=last_dropWhile hc;rw[List.getLast?_reverse]at this;exact head_dropWhile this
theorem trimT_idem(l:Tx):trimT (trimT l)=trimT l:=trimT_clean trimT_head trimT_last
theorem addrT_trim(l:Tx):addrT (trimT l)=addrT l:=by unfold addrT;rw[trimT_idem]
theorem atoi_fin: ∀a:Fin 64,∀b:Fin 64,Lib.atoiAll (decI ((64*a.val+b.val:Nat)-2048))= .ok ((64*a.val+b.val:Nat)-2048):=by decide+kernel
theorem atoi_decI{n:Int}(h1: -2048<=n)(h2:n<=2047):Lib.atoiAll (decI n)= .ok n:=by
 have:=atoi_fin ⟨(n+2048).toNat/64,by omega⟩ ⟨(n+2048).toNat%64,by omega⟩;simp only at this
 rwa[show((64*((n+2048).toNat/64)+(n+2048).toNat%64:Nat):Int)-2048=n by omega]at this
theorem addrT_lt{l:Tx}{n:Nat}(h:addrT l=some n):n<32:=by
 unfold addrT at h;simp only at h
 split at h
 ·exact(regOf_some h).1
 ·cases h
def keepI(i:Ins)(ok:Bool):Option Ins:=if ok&&checkI i then some i else none
theorem keep_false(i:Ins):keepI i false=none:=rfl
theorem keep_true{i:Ins}(h:checkI i=true):keepI i true=some i:=by unfold keepI;rw[h];rfl
theorem check_lw{d a:Nat}(hd:d<32)(ha:a<32):checkI ⟨6,d,a,0,0,[],[],0⟩=true:=by
 have h1:=regB_of hd;have h2:=regB_of ha;unfold checkI;rw[h1,h2];simp[okI,wantI];decide
theorem check_sw{b a:Nat}(hd:b<32)(ha:a<32):checkI ⟨7,0,a,b,0,[],[],0⟩=true:=by
 have h1:=regB_of hd;have h2:=regB_of ha;unfold checkI;rw[h1,h2];simp[okI,wantI];decide
theorem check_3{op:Int}(ho:op=9\/op=10){d a b:Nat}(hd:d<32)(ha:a<32)(hb:b<32):checkI ⟨op,d,a,b,0,[],[],0⟩=true:=by
 have h1:=regB_of hd;have h2:=regB_of ha;have h3:=regB_of hb;rcases ho with rfl|rfl<;>(unfold checkI;rw[h1,h2,h3];simp[okI,wantI])
theorem check_ori{d a:Nat}{n:Int}(hd:d<32)(ha:a<32):checkI ⟨8,d,a,0,n,[],[],0⟩=(decide (-2048<=n)&&decide (n<=2047)):=by
 have h1:=regB_of hd;have h2:=regB_of ha;unfold checkI;rw[h1,h2];simp[okI,wantI,show regB 0=true by decide]
theorem check_bne{a b:Nat}{z:Tx}(hd:a<32)(ha:b<32):checkI ⟨11,0,a,b,0,[],z,0⟩=nameB z:=by
 have h1:=regB_of hd;have h2:=regB_of ha;unfold checkI;rw[h1,h2];simp[okI,wantI,show regB 0=true by decide]
theorem check_label{z:Tx}:checkI ⟨12,0,0,0,0,[],z,0⟩=nameB z:=by
 unfold checkI;simp[okI,wantI,show regB 0=true by decide]
theorem check_fence{f:Int}:checkI ⟨13,0,0,0,0,[],[],f⟩=(decide (2<=f)&&decide (f<=11)):=by
 unfold checkI;simp[okI,wantI,show regB 0=true by decide]
theorem keep_lw{o1 o2:Option Nat}:(∀n,o1=some n->n<32)->(∀n,o2=some n->n<32)->
 keepI ⟨6,optN o1,optN o2,0,0,[],[],0⟩ (o1.isSome&&o2.isSome)=match o1,o2 with
  |some d,some a=>some ⟨6,d,a,0,0,[],[],0⟩
  |_,_=>none:=by
 intro h1 h2;cases o1 with
 |none=>rfl
 | some d=>cases o2 with
   |none=>rfl
   |some a=>exact keep_true (check_lw (h1 d rfl) (h2 a rfl))
theorem keep_sw{o1 o2:Option Nat}:(∀n,o1=some n->n<32)->(∀n,o2=some n->n<32)->
 keepI ⟨7,0,optN o2,optN o1,0,[],[],0⟩ (o1.isSome&&o2.isSome)=match o1,o2 with
  |some d,some a=>some ⟨7,0,a,d,0,[],[],0⟩
  |_,_=>none:=by
 intro h1 h2;cases o1 with
 |none=>rfl
 | some d=>cases o2 with
   |none=>rfl
   |some a=>exact keep_true (check_sw (h1 d rfl) (h2 a rfl))
theorem keep_bne{a b:Nat}{z:Tx}(ha:a<32)(hb:b<32):keepI ⟨11,0,a,b,0,[],z,0⟩ true=if nameB z then some ⟨11,0,a,b,0,[],z,0⟩else none:=by
 unfold keepI;rw[check_bne ha hb,Bool.true_and]
theorem keep_ori{a b:Nat}{z:Tx}{v:Int}(ha:a<32)(hb:b<32)(hv:Lib.atoiAll z= .ok v):
 keepI ⟨8,a,b,0,v,[],[],0⟩ (Lib.itoa v==z)=match numT z with
  |some n=>some ⟨8,a,b,0,n,[],[],0⟩
  |none=>none:=by
 unfold keepI;rw[check_ori ha hb];cases hn:numT z with
 | some n=>
   obtain⟨e,b1,b2⟩:=numT_some hn;rw[e,atoi_decI b1 b2]at hv;cases hv;have h1:(Lib.itoa v==z)=true:=by rw[e,itoa_decI (by omega) (by omega)];simp
   rw[h1,decide_eq_true b1,decide_eq_true b2];rfl
 | none=>
   by_cases he:Lib.itoa v=z
   ·by_cases hr: -2048<=v/\v<=2047
    ·have:=numT_decI hr.1 hr.2
     rw[<-itoa_decI (by omega) (by omega),he,hn]at this;cases this
    ·rw[show(decide (-2048<=v)&&decide (v<=2047))=false by simp;omega];simp
   ·rw[show(Lib.itoa v==z)=false by simpa using he];rfl
theorem numT_bad{z:Tx}(h: ∀v,Lib.atoiAll z≠ .ok v):numT z=none:=by
 cases hn:numT z with
 |none=>rfl
 | some n=>
   obtain⟨e,b1,b2⟩:=numT_some hn;exact absurd (by rw[e];exact atoi_decI b1 b2) (h n)
theorem keep_three{op:Int}(ho:op=9\/op=10){a b:Nat}(ha:a<32)(hb:b<32){o:Option Nat}:(∀n,o=some n->n<32)->
 keepI ⟨op,a,b,optN o,0,[],[],0⟩ o.isSome=match o with
  |some c=>some ⟨op,a,b,c,0,[],[],0⟩
  |none=>none:=by
 intro h;cases o with
 |none=>rfl
 |some c=>exact keep_true (check_3 ho ha hb (h c rfl))
theorem fpartOf_at: ∀k:Nat,∀x:Tx,([[114],[119],[114,119]]:List Tx)[k]? =some x->fpartOf x=some (k:Int):=by
 intro k x h
 match k,h with
 |0,h=>simp at h;subst h;rfl
 |1,h=>simp at h;subst h;rfl
 |2,h=>simp at h;subst h;rfl
 |k+3,h=>simp at h
theorem fpartOf_some{x:Tx}{n:Int}(h:fpartOf x=some n): ∃k:Nat,k<3/\n=k/\([[114],[119],[114,119]]:List Tx)[k]? =some x:=by
 unfold fpartOf at h
 split at h
 ·cases h;exact⟨0,by omega,rfl,by subst x;rfl⟩
 ·split at h
  ·cases h;exact⟨1,by omega,rfl,by subst x;rfl⟩
  ·split at h
   ·cases h;exact⟨2,by omega,rfl,by subst x;rfl⟩
   ·cases h
end Go.Proofs.YtkbbgjloifmmbaaGreatDoor
namespace Go.Proofs.YtkbbgjloifmmbaaGreatDoor
open Go.RowKit
theorem Txs.lt{w:World}{a:Option Addr}{l:List Tx}(h:Txs w a l){k:Nat}(hk:k<l.length):bk a<w.heap.size:=cell?_lt (p:=⟨bk a,fo a+k,none⟩) (h.cell k hk)
def Sm(l:List Tx):Prop:= ∀x∈l,x.length<=1000000
theorem Sm.at{l:List Tx}(h:Sm l)(x:Tx)(hx:x∈l):x.length<=9223372036854775807:=by have:=h x hx;omega
theorem progThree3(x y z:Tx)(a:Option Addr)(c:Nat)(w:World)(h:Txs w a [x,y,z])(hs:Sm [x,y,z]):
 Calls Tryz.prog 184 #[.slice a 3 c] w (Ret w (.tuple #[.int .i64 (optN (regOf (trimT x))),.int .i64 (optN (regOf (trimT y))),.string (tx (trimT z)),.bool ((regOf (trimT x)).isSome&&(regOf (trimT y)).isSome)])):=by
 have X:=hid (progRegister x (hs.at x (by simp)));have Y:=hid (progRegister y (hs.at y (by simp)));have Z:=hid (progTrimmed z (hs.at z (by simp)));have i0: ∀c w',(Instr.indexAt 42 (.slice a 3 c) (.int .i64 0)).run Tryz.prog w'= .ok (.pointer (some ⟨bk a,fo a,none⟩)) w':=fun c w'=>h.idx 0 (by simp) c w'
 have i1: ∀c w',(Instr.indexAt 42 (.slice a 3 c) (.int .i64 1)).run Tryz.prog w'= .ok (.pointer (some ⟨bk a,fo a+1,none⟩)) w':=fun c w'=>h.idx 1 (by simp) c w'
 have i2: ∀c w',(Instr.indexAt 42 (.slice a 3 c) (.int .i64 2)).run Tryz.prog w'= .ok (.pointer (some ⟨bk a,fo a+2,none⟩)) w':=fun c w'=>h.idx 2 (by simp) c w'
 have c0:w.cell? ⟨bk a,fo a,none⟩=some (.string (tx x)):=h.cell 0 (by simp);generalize regOf (trimT x)=rx at*;generalize regOf (trimT y)=ry at*;generalize trimT z=tz at*;go_enter Tryz.func184,Tryz.ntmps184;go_wp2_with fail;refine(X.out _).mono ?_;rintro e w1 ⟨rfl,E1⟩;have h1:=h.below E1;have c1:w1.cell? ⟨bk a,fo a+1,none⟩=some (.string (tx y)):=h1.cell 1 (by simp);clear c0;go_wp2_with fail;refine(Y.out _).mono ?_;rintro e w2 ⟨rfl,E2⟩;have h2:=h1.below E2;have E:=ext_trans E1 E2;have c2:w2.cell? ⟨bk a,fo a+2,none⟩=some (.string (tx z)):=h2.cell 2 (by simp);clear c1 E1 E2;go_wp2_with fail;refine(Z.out _).mono ?_;rintro e w3 ⟨rfl,E3⟩;have E:=ext_trans E E3;clear c2 E3;cases rx<;>cases ry<;>(go_wp2_with fail;exact bodyPost_ret (by simp[results,Tryz.results184,go_sem]) rfl ⟨rfl,E⟩)
theorem progThree_no(n c:Nat)(a:Option Addr)(hn:n≠3)(w:World):
 Calls Tryz.prog 184 #[.slice a n c] w (Ret w (.tuple #[.int .i64 0,.int .i64 0,.string ⟨#[]⟩,.bool false])):=by
 have z:((n:Int) != 3)=true:=by simp;omega
 clear hn;go_enter Tryz.func184,Tryz.ntmps184;go_wp2_with fail;exact bodyPost_ret (by simp[results,Tryz.results184,go_sem]) rfl ⟨rfl,Below.refl _ _⟩
theorem progMoved_no(op:Tx)(n c:Nat)(a:Option Addr)(hn:n≠2)(w:World):Calls Tryz.prog 182 #[.string (tx op),.slice a n c] w (RetF w 0 0 0 0 0 ⟨#[]⟩ ⟨#[]⟩ 0 false):=by
 have z:((n:Int) != 2)=true:=by simp;omega
 clear hn;go_enter Tryz.func182,Tryz.ntmps182;go_wp2_with fail;exact bodyPost_ret (by simp[results,Tryz.results182,go_sem]) rfl ⟨rfl,blA⟩
abbrev zeroI:Obj:=.cells #[.int .i64 0,.int .i64 0,.int .i64 0,.int .i64 0,.int .i64 0,.string ⟨#[]⟩,.string ⟨#[]⟩,.int .i64 0] 50
theorem fresh8{w w':World}(h:Below (w.alloc zeroI).heap.size (w.alloc zeroI) w'):
 (w'.cell? ⟨w.heap.size,0,none⟩=some (.int .i64 0)/\w'.cell? ⟨w.heap.size,1,none⟩=some (.int .i64 0)/\w'.cell? ⟨w.heap.size,2,none⟩=some (.int .i64 0)/\w'.cell? ⟨w.heap.size,3,none⟩=some (.int .i64 0)/\w'.cell? ⟨w.heap.size,4,none⟩=some (.int .i64 0)/\w'.cell? ⟨w.heap.size,5,none⟩=some (.string ⟨#[]⟩)/\w'.cell? ⟨w.heap.size,6,none⟩=some (.string ⟨#[]⟩)/\w'.cell? ⟨w.heap.size,7,none⟩=some (.int .i64 0))/\
 (∀k,w'.frozen? ⟨w.heap.size,k,none⟩=false)/\w.heap.size<w'.heap.size/\Below w.heap.size w w':=by
 have hs:=h.size;simp at hs
 have hc: ∀k,w'.cell? ⟨w.heap.size,k,none⟩=(#[.int .i64 0,.int .i64 0,.int .i64 0,.int .i64 0,.int .i64 0,.string ⟨#[]⟩,.string ⟨#[]⟩,.int .i64 0]:Array Value)[k]? :=fun k=>by
  rw[h.cell (p:=⟨w.heap.size,k,none⟩) (by simp)];have hh:=heap_alloc_new w zeroI;simp only[World.cell?,hh];simp
 refine⟨⟨hc 0,hc 1,hc 2,hc 3,hc 4,hc 5,hc 6,hc 7⟩,fun k=>?_,by omega,(al w zeroI).trans (h.mono (al w zeroI).size)⟩;rw[h.frozen (p:=⟨w.heap.size,k,none⟩) (by simp)];have hh:=heap_alloc_new w zeroI;simp only[World.frozen?,hh];simp
theorem progMoved_lw(op x y:Tx)(hop:op=[108,119])(a:Option Addr)(c:Nat)(w:World)(h:Txs w a [x,y])(hs:Sm [x,y]):
 Calls Tryz.prog 182 #[.string (tx op),.slice a 2 c] w (RetF w 6 (optN (regOf (trimT x))) (optN (addrT y)) 0 0 ⟨#[]⟩ ⟨#[]⟩ 0 ((regOf (trimT x)).isSome&&(addrT y).isSome)):=by
 have X:=hid (progRegister x (hs.at x (by simp)));have Y:=hid (progAddress y (hs.at y (by simp)));have i0: ∀c w',(Instr.indexAt 42 (.slice a 2 c) (.int .i64 0)).run Tryz.prog w'= .ok (.pointer (some ⟨bk a,fo a,none⟩)) w':=fun c w'=>h.idx 0 (by simp) c w'
 have i1: ∀c w',(Instr.indexAt 42 (.slice a 2 c) (.int .i64 1)).run Tryz.prog w'= .ok (.pointer (some ⟨bk a,fo a+1,none⟩)) w':=fun c w'=>h.idx 1 (by simp) c w'
 have c0:w.cell? ⟨bk a,fo a,none⟩=some (.string (tx x)):=h.cell 0 (by simp);have hl:=h.lt (k:=0) (by simp);generalize regOf (trimT x)=rx at*;generalize addrT y=ry at*;have z:((tx op).toList==[108,119])=true:=by rw[tx_toList];simpa using hop
 clear hop;go_enter Tryz.func182,Tryz.ntmps182;go_wp2_with fail;refine(X.out _).mono ?_;rintro e w1 ⟨rfl,E1⟩;have h1:=(h.below (al _ _)).below E1;have c1:w1.cell? ⟨bk a,fo a+1,none⟩=some (.string (tx y)):=h1.cell 1 (by simp);clear c0;go_wp2_with fail;refine(Y.out _).mono ?_;rintro e w2 ⟨rfl,E2⟩;have E:=ext_trans E1 E2;obtain⟨⟨d0,d1,d2,d3,d4,d5,d6,d7⟩,hf,hlt,B⟩:=fresh8 E;clear c1 E1 E2 h1 E hl;cases rx<;>cases ry<;>(go_wp2_with fail;exact bodyPost_ret (by simp[results,Tryz.results182,go_sem,d0,d1,d2,d3,d4,d5,d6,d7]) rfl ⟨rfl,blA⟩)
theorem progMoved_sw(op x y:Tx)(hop:op≠[108,119])(a:Option Addr)(c:Nat)(w:World)(h:Txs w a [x,y])(hs:Sm [x,y]):
 Calls Tryz.prog 182 #[.string (tx op),.slice a 2 c] w (RetF w 7 0 (optN (addrT y)) (optN (regOf (trimT x))) 0 ⟨#[]⟩ ⟨#[]⟩ 0 ((regOf (trimT x)).isSome&&(addrT y).isSome)):=by
 have X:=hid (progRegister x (hs.at x (by simp)));have Y:=hid (progAddress y (hs.at y (by simp)));have i0: ∀c w',(Instr.indexAt 42 (.slice a 2 c) (.int .i64 0)).run Tryz.prog w'= .ok (.pointer (some ⟨bk a,fo a,none⟩)) w':=fun c w'=>h.idx 0 (by simp) c w'
 have i1: ∀c w',(Instr.indexAt 42 (.slice a 2 c) (.int .i64 1)).run Tryz.prog w'= .ok (.pointer (some ⟨bk a,fo a+1,none⟩)) w':=fun c w'=>h.idx 1 (by simp) c w'
 have c0:w.cell? ⟨bk a,fo a,none⟩=some (.string (tx x)):=h.cell 0 (by simp);have hl:=h.lt (k:=0) (by simp);generalize regOf (trimT x)=rx at*;generalize addrT y=ry at*;have z:((tx op).toList==[108,119])=false:=by rw[tx_toList];simpa using hop
 clear hop;go_enter Tryz.func182,Tryz.ntmps182;go_wp2_with fail;refine(X.out _).mono ?_;rintro e w1 ⟨rfl,E1⟩;have h1:=(h.below (al _ _)).below E1;have c1:w1.cell? ⟨bk a,fo a+1,none⟩=some (.string (tx y)):=h1.cell 1 (by simp);clear c0;go_wp2_with fail;refine(Y.out _).mono ?_;rintro e w2 ⟨rfl,E2⟩;have E:=ext_trans E1 E2;obtain⟨⟨d0,d1,d2,d3,d4,d5,d6,d7⟩,hf,hlt,B⟩:=fresh8 E;clear c1 E1 E2 h1 E hl;cases rx<;>cases ry<;>(go_wp2_with fail;exact bodyPost_ret (by simp[results,Tryz.results182,go_sem,d0,d1,d2,d3,d4,d5,d6,d7]) rfl ⟨rfl,blA⟩)
theorem progParts(w:World):Calls Tryz.prog 251 #[] w fun e w'=>e= .returned (.slice (some ⟨w.heap.size,0,none⟩) 3 3)/\w'=w.alloc (.cells #[.string ⟨#[114]⟩,.string ⟨#[119]⟩,.string ⟨#[114,119]⟩] 9):=by
 go_enter Tryz.func251,Tryz.ntmps251
 go_wp2
 go_ret;exact⟨rfl,rfl⟩
theorem Txs.cellq{w:World}{a:Option Addr}{l:List Tx}(h:Txs w a l){k:Nat}{u:Tx}(hu:l[k]? =some u):w.cell? ⟨bk a,fo a+k,none⟩=some (.string (tx u)):=by
 obtain⟨hk,rfl⟩:=List.getElem?_eq_some_iff.1 hu;exact h.cell k hk
def partsL:List Tx:=[[114],[119],[114,119]]
theorem progPartsT(w:World):Calls Tryz.prog 251 #[] w fun e w'=> ∃a,e= .returned (.slice a 3 3)/\Txs w' a partsL/\Below w.heap.size w w':=by
 refine(progParts w).mono fun e w' hh=>?_
 obtain⟨he,rfl⟩:=hh;refine⟨_,he,⟨⟨fun _=>rfl,fun i hi=>?_⟩,by decide⟩,al _ _⟩;have hh:=heap_alloc_new w (.cells #[.string ⟨#[114]⟩,.string ⟨#[119]⟩,.string ⟨#[114,119]⟩] 9);simp only[World.cell?,bk_some,fo_some,hh];have hi:i=0\/i=1\/i=2:=by simp[partsL]at hi;omega
 rcases hi with rfl|rfl|rfl<;>rfl
theorem parts_idx{w:World}{a:Option Addr}(h:Txs w a partsL)(k:Nat)(hk:k<3): ∀c w',(Instr.indexAt 42 (.slice a 3 c) (.int .i64 k)).run Tryz.prog w'= .ok (.pointer (some ⟨bk a,fo a+k,none⟩)) w':=h.idx k hk
def NoF(x y:Tx)(k j:Nat):Prop:= ∀k' j',k'<3->j'<3->(k'<k\/(k'=k/\j'<j))-> ¬(partsL[k']? =some x/\partsL[j']? =some y)
def FenceP(x y:Tx)(w:World)(e:Ending)(w':World):Prop:=
 ((∃k j:Nat,k<3/\j<3/\partsL[k]? =some x/\partsL[j]? =some y/\e= .returned (.tuple #[.agg #[.int .i64 13,.int .i64 0,.int .i64 0,.int .i64 0,.int .i64 0,.string ⟨#[]⟩,.string ⟨#[]⟩,.int .i64 (3+3*(k:Int)+j)],.bool true]))\/
  (NoF x y 3 0/\e= .returned (.tuple #[.agg #[.int .i64 0,.int .i64 0,.int .i64 0,.int .i64 0,.int .i64 0,.string ⟨#[]⟩,.string ⟨#[]⟩,.int .i64 0],.bool false])))/\Below w.heap.size w w'
theorem progFence_no(n c:Nat)(a:Option Addr)(hn:n≠2)(w:World):Calls Tryz.prog 183 #[.slice a n c] w (RetF w 0 0 0 0 0 ⟨#[]⟩ ⟨#[]⟩ 0 false):=by
 have z:((n:Int) != 2)=true:=by simp;omega
 clear hn;go_enter Tryz.func183,Tryz.ntmps183;go_wp2_with fail;exact bodyPost_ret (by simp[results,Tryz.results183,go_sem]) rfl ⟨rfl,blA⟩
theorem progFence(x y:Tx)(a:Option Addr)(c:Nat)(w:World)(h:Txs w a [x,y])(hs:Sm [x,y]):
 Calls Tryz.prog 183 #[.slice a 2 c] w (FenceP (trimT x) (trimT y) w):=by
 have X:=hid (progTrimmed x (hs.at x (by simp)));have Y:=hid (progTrimmed y (hs.at y (by simp)));have i0: ∀c w',(Instr.indexAt 42 (.slice a 2 c) (.int .i64 0)).run Tryz.prog w'= .ok (.pointer (some ⟨bk a,fo a,none⟩)) w':=fun c w'=>h.idx 0 (by simp) c w'
 have i1: ∀c w',(Instr.indexAt 42 (.slice a 2 c) (.int .i64 1)).run Tryz.prog w'= .ok (.pointer (some ⟨bk a,fo a+1,none⟩)) w':=fun c w'=>h.idx 1 (by simp) c w'
 generalize trimT x=tx' at*;generalize trimT y=ty' at*;have E0:Below (w.alloc zeroI).heap.size (w.alloc zeroI) (w.alloc zeroI):=Below.refl _ _;have HW:=hid (al w zeroI);go_enter Tryz.func183,Tryz.ntmps183;go_wp2_with fail;refine(progPartsT _).mono ?_;rintro e w1 ⟨a1,rfl,p1,E⟩;have E1:=E0.trans E;clear E0 E;go_wp2_with fail
 go_loopw [14] (fun i wr=> ∃k:Nat,k<=3/\i= .int .i64 k/\Hid (NoF tx' ty' k 0)/\Txs wr a1 partsL/\Below (w.alloc zeroI).heap.size (w.alloc zeroI) wr) (fun i _=>3-(intOf i).toNat)
 case atStart=>exact⟨0,by omega,rfl,fun k' j' _ _ h=>by omega,p1,E1⟩
 case round=>
  clear p1 E1;obtain⟨k,hk,rfl,HN,p,E⟩:=hrel
  by_cases hlk:k<3
  ·obtain⟨u,hu⟩: ∃u,partsL[k]? =some u:=⟨_,List.getElem?_eq_getElem hlk⟩
   have HU:=hid hu;have ik:=parts_idx p k hlk;have ck: ∀W,Below wr.heap.size wr W->W.cell? ⟨bk a1,fo a1+k,none⟩=some (.string (tx u)):=fun W hW=>(p.below hW).cellq hu
   have ck0:=ck wr (Below.refl _ _);clear hu ck;go_wp2_with fail;refine(progPartsT _).mono ?_;rintro e w2 ⟨a2,rfl,p2,E2⟩;have p:=p.below E2;have E:=E.trans (E2.mono E.size);clear E2 ck0;go_wp2_with fail
   go_loopw [21] (fun i wr=> ∃j:Nat,j<=3/\i= .int .i64 j/\Hid (NoF tx' ty' k j)/\Txs wr a1 partsL/\Txs wr a2 partsL/\Below (w.alloc zeroI).heap.size (w.alloc zeroI) wr) (fun i _=>3-(intOf i).toNat)
   case atStart=>exact⟨0,by omega,rfl,HN,p,p2,E⟩
   case round=>
    clear p p2 E;obtain⟨j,hj,rfl,HN2,p,p2,E⟩:=hrel
    by_cases hlj:j<3
    ·obtain⟨v,hv⟩: ∃v,partsL[j]? =some v:=⟨_,List.getElem?_eq_getElem hlj⟩
     have HV:=hid hv;have ij:=parts_idx p2 j hlj;have cj:wr.cell? ⟨bk a2,fo a2+j,none⟩=some (.string (tx v)):=p2.cellq hv;have hB:Below w.heap.size w wr:=HW.out.trans (E.mono HW.out.size);have hT:=h.below hB;have c0:wr.cell? ⟨bk a,fo a,none⟩=some (.string (tx x)):=hT.cell 0 (by simp);clear hv hB
     by_cases hx:tx'=u
     ·have z1:((tx tx').toList==(tx u).toList)=true:=by rw[tx_beq];simpa using hx
      by_cases hy:ty'=v
      ·have z2:((tx ty').toList==(tx v).toList)=true:=by rw[tx_beq];simpa using hy
       have HF:=hid (show partsL[k]? =some tx'/\partsL[j]? =some ty' by rw[HU.out,HV.out,hx,hy];exact⟨rfl,rfl⟩);clear hx hy;go_wp2_with fail;refine(X.out _).mono ?_;rintro e w3 ⟨rfl,E3⟩;have hT:=hT.below E3;have E:=E.trans (E3.mono E.size);have c1:w3.cell? ⟨bk a,fo a+1,none⟩=some (.string (tx y)):=hT.cell 1 (by simp);have p2:=p2.below E3;have cj:w3.cell? ⟨bk a2,fo a2+j,none⟩=some (.string (tx v)):=p2.cellq HV.out;clear E3 c0;go_wp2_with fail;refine(Y.out _).mono ?_;rintro e w4 ⟨rfl,E4⟩;have E:=E.trans (E4.mono E.size);obtain⟨⟨d0,d1,d2,d3,d4,d5,d6,d7⟩,hf,hlt,B⟩:=fresh8 E;clear E4 E c1 cj hT HN HN2 p2 p;go_wp2_with fail;exact bodyPost_ret (by simp[results,Tryz.results183,go_sem,d0,d1,d2,d3,d4,d5,d6,d7]) rfl ⟨.inl ⟨k,j,hlk,hlj,HF.out.1,HF.out.2,rfl⟩,blA⟩
      ·have z2:((tx ty').toList==(tx v).toList)=false:=tx_eq_false hy
       have HN3:=hid (show NoF tx' ty' k (j+1)from fun k' j' h1 h2 h3=>by
        by_cases hc:k'=k/\j'=j
        ·rintro⟨-, h5⟩;rw[hc.2,HV.out]at h5;cases h5;exact hy rfl
        ·exact HN2.out k' j' h1 h2 (by omega))
       clear hx hy;go_wp2_with fail;refine(X.out _).mono ?_;rintro e w3 ⟨rfl,E3⟩;have hT:=hT.below E3;have E:=E.trans (E3.mono E.size);have c1:w3.cell? ⟨bk a,fo a+1,none⟩=some (.string (tx y)):=hT.cell 1 (by simp);have p2:=p2.below E3;have p:=p.below E3;clear E3 c0;go_wp2_with fail;refine(Y.out _).mono ?_;rintro e w4 ⟨rfl,E4⟩;have E:=E.trans (E4.mono E.size);have p2:=p2.below E4;have p:=p.below E4;clear E4 c1 cj hT HN HN2;go_wp2_with fail
       go_roundw
       case rel=>exact⟨j+1,by omega,by go_num,HN3,p,p2,E⟩
       case measure=>simp[intOf];omega
     ·have z1:((tx tx').toList==(tx u).toList)=false:=tx_eq_false hx
      have HN3:=hid (show NoF tx' ty' k (j+1)from fun k' j' h1 h2 h3=>by
       by_cases hc:k'=k/\j'=j
       ·rintro⟨h5, -⟩;rw[hc.1,HU.out]at h5;cases h5;exact hx rfl
       ·exact HN2.out k' j' h1 h2 (by omega))
      clear hx;go_wp2_with fail;refine(X.out _).mono ?_;rintro e w3 ⟨rfl,E3⟩;have E:=E.trans (E3.mono E.size);have p2:=p2.below E3;have p:=p.below E3;clear E3 c0 cj hT HN HN2;go_wp2_with fail
      go_roundw
      case rel=>exact⟨j+1,by omega,by go_num,HN3,p,p2,E⟩
      case measure=>simp[intOf];omega
    ·obtain rfl:j=3:=by omega
     have HN3:=hid (show NoF tx' ty' (k+1) 0 from fun k' j' h1 h2 h3=>HN2.out k' j' h1 h2 (by omega));go_wp2_with fail
     go_roundw
     case rel=>exact⟨k+1,by omega,by go_num,HN3,p,E⟩
     case measure=>simp[intOf];omega
  ·obtain rfl:k=3:=by omega
   obtain⟨⟨d0,d1,d2,d3,d4,d5,d6,d7⟩,hf,hlt,B⟩:=fresh8 E;clear E;go_wp2_with fail;exact bodyPost_ret (by simp[results,Tryz.results183,go_sem,d0,d1,d2,d3,d4,d5,d6,d7]) rfl ⟨.inr ⟨HN,rfl⟩,blA⟩
def Rd(r:Option Ins)(w:World)(e:Ending)(w':World):Prop:=
 ∃(op d a b imm:Int) (label:Tx) (fence:Int) (ok:Bool),e= .returned (.tuple #[.agg #[.int .i64 op,.int .i64 d,.int .i64 a,.int .i64 b,.int .i64 imm,.string ⟨#[]⟩,.string (tx label),.int .i64 fence],.bool ok])/\keepI ⟨op,d,a,b,imm,[],label,fence⟩ ok=r/\label.length<=1000000/\Below w.heap.size w w'
theorem Rd.of{r:Option Ins}{w w':World}{e:Ending}{op d a b imm fence:Int}{ok:Bool}(h:RetF w op d a b imm ⟨#[]⟩ ⟨#[]⟩ fence ok e w')(hk:keepI ⟨op,d,a,b,imm,[],[],fence⟩ ok=r):Rd r w e w':=
 ⟨op,d,a,b,imm,[],fence,ok,h.1,hk,by simp,h.2⟩
theorem regOf_lt{s:Tx}: ∀n,regOf s=some n->n<32:=fun n h=>(regOf_some h).1
theorem addrT_lt'{s:Tx}: ∀n,addrT s=some n->n<32:=fun n h=>addrT_lt h
theorem len2{l:List Tx}(h:l.length=2): ∃x y,l=[x,y]:=by
 match l,h with
 |[x,y],_=>exact⟨x,y,rfl⟩
theorem len3{l:List Tx}(h:l.length=3): ∃x y z,l=[x,y,z]:=by
 match l,h with
 |[x,y,z],_=>exact⟨x,y,z,rfl⟩
theorem read_lw2(x y:Tx):readI [108,119] [x,y]=match regOf x,addrT y with
 |some d,some a=>some ⟨6,d,a,0,0,[],[],0⟩
 |_,_=>none:=by unfold readI;rw[if_pos rfl];rfl
theorem read_sw2(x y:Tx):readI [115,119] [x,y]=match regOf x,addrT y with
 |some d,some a=>some ⟨7,0,a,d,0,[],[],0⟩
 |_,_=>none:=by unfold readI;rw[if_neg (by decide),if_pos rfl];rfl
theorem read_lw_no{l:List Tx}(h:l.length≠2):readI [108,119] l=none:=by
 unfold readI;rw[if_pos rfl]
 match l with
 |[]=>rfl
 |[_]=>rfl
 |[_,_]=>simp at h
 |_::_::_::_=>rfl
theorem read_sw_no{l:List Tx}(h:l.length≠2):readI [115,119] l=none:=by
 unfold readI;rw[if_neg (by decide),if_pos rfl]
 match l with
 |[]=>rfl
 |[_]=>rfl
 |[_,_]=>simp at h
 |_::_::_::_=>rfl
theorem moved_lw(l:List Tx)(a:Option Addr)(c:Nat)(w:World)(h:Txs w a l)(hs:Sm l):Calls Tryz.prog 182 #[.string (tx [108,119]),.slice a l.length c] w (Rd (readI [108,119] (l.map trimT)) w):=by
 by_cases hl:l.length=2
 ·obtain⟨x,y,rfl⟩:=len2 hl
  refine(progMoved_lw [108,119] x y rfl a c w h hs).mono fun e w' hh=>Rd.of hh ?_
  rw[show[x,y].map trimT=[trimT x,trimT y]from rfl,read_lw2,addrT_trim];exact keep_lw regOf_lt addrT_lt'
 ·refine(progMoved_no [108,119] l.length c a hl w).mono fun e w' hh=>Rd.of hh ?_
  rw[read_lw_no (by simpa using hl)];rfl
theorem moved_sw(l:List Tx)(a:Option Addr)(c:Nat)(w:World)(h:Txs w a l)(hs:Sm l):Calls Tryz.prog 182 #[.string (tx [115,119]),.slice a l.length c] w (Rd (readI [115,119] (l.map trimT)) w):=by
 by_cases hl:l.length=2
 ·obtain⟨x,y,rfl⟩:=len2 hl
  refine(progMoved_sw [115,119] x y (by decide) a c w h hs).mono fun e w' hh=>Rd.of hh ?_
  rw[show[x,y].map trimT=[trimT x,trimT y]from rfl,read_sw2,addrT_trim];exact keep_sw regOf_lt addrT_lt'
 ·refine(progMoved_no [115,119] l.length c a hl w).mono fun e w' hh=>Rd.of hh ?_
  rw[read_sw_no (by simpa using hl)];rfl
theorem read_fence2(x y:Tx):readI [102,101,110,99,101] [x,y]=match fpartOf x,fpartOf y with
 |some k,some j=>some ⟨13,0,0,0,0,[],[],3+3*k+j⟩
 |_,_=>none:=by unfold readI;rw[if_neg (by decide),if_neg (by decide),if_pos rfl];rfl
theorem read_fence_no{l:List Tx}(h:l.length≠2):readI [102,101,110,99,101] l=none:=by
 unfold readI;rw[if_neg (by decide),if_neg (by decide),if_pos rfl]
 match l with
 |[]=>rfl
 |[_]=>rfl
 |[_,_]=>simp at h
 |_::_::_::_=>rfl
theorem fence_rd(l:List Tx)(a:Option Addr)(c:Nat)(w:World)(h:Txs w a l)(hs:Sm l):Calls Tryz.prog 183 #[.slice a l.length c] w (Rd (readI [102,101,110,99,101] (l.map trimT)) w):=by
 by_cases hl:l.length=2
 ·obtain⟨x,y,rfl⟩:=len2 hl
  refine(progFence x y a c w h hs).mono fun e w' hh=>?_
  rw[show[x,y].map trimT=[trimT x,trimT y]from rfl,read_fence2];obtain⟨h1|h1,hb⟩:=hh
  ·obtain⟨k,j,hk,hj,hx,hy,he⟩:=h1
   rw[fpartOf_at k _ hx,fpartOf_at j _ hy];exact Rd.of ⟨he,hb⟩ (keep_true (by rw[check_fence];simp;omega))
  ·obtain⟨hn,he⟩:=h1
   refine Rd.of ⟨he,hb⟩ ?_;rw[keep_false];cases h2:fpartOf (trimT x)with
   |none=>rfl
   | some k=>cases h3:fpartOf (trimT y)with
     |none=>rfl
     | some j=>
       obtain⟨k',hk',-, ex⟩:=fpartOf_some h2;obtain⟨j',hj',-, ey⟩:=fpartOf_some h3;exact absurd ⟨ex,ey⟩ (hn k' j' hk' hj' (.inl hk'))
 ·refine(progFence_no l.length c a hl w).mono fun e w' hh=>Rd.of hh ?_
  rw[read_fence_no (by simpa using hl)];rfl
theorem Rd.map{r r':Option Ins}{w w':World}{e:Ending}(h:Rd r w e w')(hr:r=r'):Rd r' w e w':=hr▸h
theorem progRead_lw(l:List Tx)(a:Option Addr)(c:Nat)(w:World)(h:Txs w a l)(hs:Sm l):Calls Tryz.prog 102 #[.string (tx [108,119]),.slice a l.length c] w (Rd (readI [108,119] (l.map trimT)) w):=by
 have z1:((tx [108,119]).toList==[108,119])=true:=by rw[tx_toList];rfl
 have C:=hid (moved_lw l a c (w.alloc zeroI) (h.below (al _ _)) hs);generalize readI [108,119] (l.map trimT)=r at*;generalize l.length=n at*;go_enter Tryz.func102,Tryz.ntmps102;go_wp2_with fail;refine C.out.mono ?_;rintro e w1 ⟨op,d,a1,b,imm,label,fence,ok,rfl,hk,hl,E⟩;obtain⟨⟨d0,d1,d2,d3,d4,d5,d6,d7⟩,hf,hlt,B⟩:=fresh8 E;have HK:=hid hk;clear hk E h hs;go_wp2_with fail;exact bodyPost_ret (by simp[results,Tryz.results102,go_sem,d0,d1,d2,d3,d4,d5,d6,d7]) rfl ⟨op,d,a1,b,imm,label,fence,ok,rfl,HK.out,hl,blA⟩
end Go.Proofs.YtkbbgjloifmmbaaGreatDoor
