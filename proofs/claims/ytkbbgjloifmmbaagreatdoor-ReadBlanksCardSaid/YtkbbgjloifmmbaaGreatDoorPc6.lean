/- What ReadBlanksP leans on, part 6. -/
import Derived.Test.YtkbbgjloifmmbaaGreatDoorPc4
set_option linter.unusedVariables false
set_option maxRecDepth 100000
set_option maxHeartbeats 32000000
open _root_.Go.Proofs.Tryz
open _root_.Bool renaming not_false->aqv,not_true->aqw
namespace Go.Proofs.YtkbbgjloifmmbaaGreatDoor
open Go.RowKit
theorem ahx(w:World):Calls prog 251 #[] w fun e w'=>e= .returned (.slice (some ⟨w.heap.size,0,none⟩) 3 3)/\w'=w.alloc (.cells #[.string ⟨#[114]⟩,.string ⟨#[119]⟩,.string ⟨#[114,119]⟩] 9):=by
 go_in
 go_wp2
 go_ret;exact⟨rfl,rfl⟩
theorem o8:UF cg 297:=fun c=>yB c _ (by decide)
theorem jH:UF aD 298:=fun c=>xO c _ (by decide)
theorem X6:UF cg 204:=fun c=>yB c _ (by decide)
theorem rU:UF aD 200:=fun c=>xO c _ (by decide)
theorem Yc:UF aD 308:=fun c=>xO c _ (by decide)
theorem Sa:SF aC 322:=fun l hl=>yH l hl _ (by decide)
theorem yO:SF aC 118:=fun l hl=>yH l hl _ (by decide)
theorem yP:SF aC 252:=fun l hl=>yH l hl _ (by decide)
theorem Wm(l:Tx)(hl:l.length<=9223372036854775807)(F:Nat)(hF:F∈[177,225])(w:World):Calls prog F #[.string (tx l)] w fun e w'=>e= .returned (.bool (aC l))/\w=w':=by
 simp only[List.mem_cons,List.not_mem_nil,or_false]at hF;rcases hF with rfl|rfl
 all_goals
  have hs:=aM l;cases l with
  | nil=>
    have hs:(tx []).size=0:=rfl
    go_in
    go_wp2;go_ret;exact⟨rfl,rfl⟩
  | cons c r=>
    obtain⟨n,hn⟩:=aj ((tx (c::r)).size);have jK:1<=n:=by rw[<-hn,hs];simp
    have rJ:n=r.length+1:=by rw[<-hn,hs];simp
    clear hs hl
    by_cases Fz:n<=32
    ·have i0:=kJ (c::r) c rfl
     have HR:=hid rJ;clear rJ
     go_in
     go_wp2_with fail
     go_loop [3] (fun i=> ∃k:Nat,k<=n/\i= .int .i64 k/\Hid (∀(i:Nat) (x:UInt8),i<k->(c::r)[i]? =some x->cP x=true)/\Hid (0<k->cg c=true)) (fun i=>n-(intOf i).toNat)
     ·exact⟨0,by omega,rfl,fun i x hi=>absurd hi (Nat.not_lt_zero i),fun h=>absurd h (Nat.lt_irrefl 0)⟩
     obtain⟨k,hk,rfl,HM,HK⟩:=hrel
     by_cases hlt:k<n
     ·by_cases hk0:k=0
      ·subst hk0
       have hlt':c.toNat<256:=c.toNat_lt;obtain⟨m,hm⟩:=aj c.toNat;have HC:=hid (Mi c);rw[hm]at i0 hlt' HC
       have HY:=hid (show cg c=true->Hid (∀(i:Nat) (x:UInt8),i<1->(c::r)[i]? =some x->cP x=true)from fun h i x hi hx=>by
        obtain rfl:i=0:=by omega
        cases hx;unfold cP;rw[h];rfl)
       have HF:=hid (show cg c=false->aC (c::r)=false from fun h=>by rw[yG,h];simp);have dV:0<n:=by omega
       clear hm HM HK hk hlt;have hp:m<65\/(65<=m/\m<=90)\/(91<=m/\m<=96)\/(97<=m/\m<=122)\/123<=m:=by omega
       rcases hp with h|⟨h,h'⟩|⟨h,h'⟩|⟨h,h'⟩|h
       all_goals
        (try(have amk:(!decide ((m:Int)<=122))=true:=ah))
        (try(have z90:(!decide ((m:Int)<=90))=true:=ah))
        go_wp2_with fail
        first
        |(go_round
          case rel=>exact⟨1,by omega,by go_num,HY.out (by rw[HC.out];simp<;>omega),hid fun _=>by rw[HC.out];simp<;>omega⟩
          case measure=>simp[intOf];omega)
        |(go_ret
          exact⟨aQ (HF.out (by rw[HC.out];simp<;>omega)).symm,rfl⟩)
      have fQ:0<k:=by omega
      obtain⟨x,hx⟩: ∃x,(c::r)[k]? =some x:=⟨_,List.getElem?_eq_getElem (by have:=HR.out;simp;omega)⟩;have ix:=bB (c::r) k x hx;have hlt':x.toNat<256:=x.toNat_lt;obtain⟨m,hm⟩:=aj x.toNat;have HC:=hid (show cP x=(((decide (97<=m)&&decide (m<=122))||(decide (65<=m)&&decide (m<=90)))||(decide (48<=m)&&decide (m<=57))||decide (m=95)) by rw[Wj,Mi,SE,hm]);rw[hm]at ix hlt';have HF:=hid (fun h=>Wi (l:=c::r) (k:=k) (c:=x) hx h)
      have eo:cP x=true->Hid (∀(i:Nat) (y:UInt8),i<k+1->(c::r)[i]? =some y->cP y=true):=fun hx' i y hi hy=>by
       rcases Nat.lt_succ_iff_lt_or_eq.1 hi with h|h
       ·exact HM.out i y h hy
       subst h;rw[hx]at hy;cases hy;exact hx'
      have eo:=hid eo;have HL:=hid (HK.out fQ);clear hm hx HM HK hk0 i0;have hp:m<48\/(48<=m/\m<=57)\/(58<=m/\m<=64)\/(65<=m/\m<=90)\/(91<=m/\m<=94)\/m=95\/m=96\/(97<=m/\m<=122)\/123<=m:=by omega
      rcases hp with h|⟨h,h'⟩|⟨h,h'⟩|⟨h,h'⟩|⟨h,h'⟩|h|h|⟨h,h'⟩|h
      all_goals
       (try(have amk:(!decide ((m:Int)<=122))=true:=ah))
       (try(have z90:(!decide ((m:Int)<=90))=true:=ah))
       (try(have z57:(!decide ((m:Int)<=57))=true:=ah))
       (try(have z95:((m:Int)==95)=false:=ah))
       (try subst h)
       go_wp2_with fail
       first
       |(go_round
         case rel=>exact⟨k+1,by omega,by go_num,eo.out (by rw[HC.out];simp<;>omega),fun _=>HL.out⟩
         case measure=>simp[intOf];omega)
       |(go_ret
         exact⟨aQ (HF.out (by rw[HC.out];simp<;>omega)).symm,rfl⟩)
     have HF:=hid (Wh (c:=c) (r:=r) (aI HR.out) (HK.out (by omega)) (fun i x hi=>HM.out i x (by
      have h1:=(List.getElem?_eq_some_iff.1 hi).1;have:=HR.out;simp at h1;omega) hi))
     go_wp2;go_ret;exact⟨aQ HF.out.symm,rfl⟩
    have HF:=hid (show aC (c::r)=false by rw[yG,decide_eq_false (by omega)];simp)
    clear rJ
    go_in
    go_wp2;go_ret;exact⟨aQ HF.out.symm,rfl⟩
theorem Gg:SF aC 177:=fun l hl=>Wm l hl _ (by decide)
theorem SR:SF aC 225:=fun l hl=>Wm l hl _ (by decide)
theorem Gh:sF bO 178:=fun c=>yJ c _ (by decide)
theorem acQ:sF bO 226:=fun c=>yJ c _ (by decide)
theorem abO:sF bO 279:=fun c=>yJ c _ (by decide)
theorem GH:sF bO 201:=fun c=>yJ c _ (by decide)
theorem C8:sF bO 309:=fun c=>yJ c _ (by decide)
theorem L5:sF fB 179:=fun c=>YE c _ (by decide)
theorem Ni:sF fB 333:=fun c=>YE c _ (by decide)
section
variable (op d a b ag:Int) (loc label:Tx) (ai:Int) (w:World)
theorem ame(hl:loc.length<=9223372036854775807):Calls prog 97 #[vI ⟨1,d,a,b,ag,loc,label,ai⟩] w (aJ w (.int .i64 (dP ⟨1,d,a,b,ag,loc,label,ai⟩))):=by
 have hc:iF ⟨1,d,a,b,ag,loc,label,ai⟩=(eD ⟨1,d,a,b,ag,loc,label,ai⟩&&decide ((⟨1,0,0,0,ag,loc,[],0⟩:ay)=⟨1,d,a,b,ag,loc,label,ai⟩)):=by
  rw[show decide ((⟨1,0,0,0,ag,loc,[],0⟩:ay)=⟨1,d,a,b,ag,loc,label,ai⟩)=decide ((⟨1,d,a,b,ag,loc,label,ai⟩:ay)=⟨1,0,0,0,ag,loc,[],0⟩)from decide_eq_decide.mpr eq_comm];rfl
 have ok:eD ⟨1,d,a,b,ag,loc,label,ai⟩=(aC loc&&bO ag):=by cases k0:aC loc<;>cases k1:bO ag<;>simp[eD,k0,k1]
 have he:dP ⟨1,d,a,b,ag,loc,label,ai⟩=if(((aC loc&&bO ag))&&decide ((⟨1,0,0,0,ag,loc,[],0⟩:ay)=⟨1,d,a,b,ag,loc,label,ai⟩))=true then 0 else 91:=by unfold dP;rw[hc,ok]
 clear hc ok;obtain⟨n,hn⟩: ∃n,n= !decide ((⟨1,0,0,0,ag,loc,[],0⟩:ay)=⟨1,d,a,b,ag,loc,label,ai⟩):=⟨_,rfl⟩;have lY: ∀w,(binOp .neq 50 (.agg #[.int .i64 1,.int .i64 0,.int .i64 0,.int .i64 0,.int .i64 ag,.string (tx loc),.string ⟨#[]⟩,.int .i64 0]) (.agg #[.int .i64 1,.int .i64 d,.int .i64 a,.int .i64 b,.int .i64 ag,.string (tx loc),.string (tx label),.int .i64 ai])).run prog w= .ok (.bool n) w:=fun w=>by rw[hn];exact gP ⟨1,0,0,0,ag,loc,[],0⟩ ⟨1,d,a,b,ag,loc,label,ai⟩ w
 cases h0:aC loc<;>cases h1:bO ag<;>cases hq:decide ((⟨1,0,0,0,ag,loc,[],0⟩:ay)=⟨1,d,a,b,ag,loc,label,ai⟩)
 all_goals
  rw[hq]at hn;simp only[aqw,aqv]at hn;subst hn;rw[hq,h0,h1]at he;have HE:=hid he;replace h0:=hid h0;replace h1:=hid h1;clear he hq;go_in
  go_wp2_with (first|(go_at_call 177;refine av (Gg loc hl _) ?_;rw[h0.out])|(go_at_call 178;refine av (Gh ag _) ?_;rw[h1.out]))
  go_ret;exact⟨bQ HE.out.symm,aF⟩
theorem amf(hl:loc.length<=9223372036854775807):Calls prog 97 #[vI ⟨2,d,a,b,ag,loc,label,ai⟩] w (aJ w (.int .i64 (dP ⟨2,d,a,b,ag,loc,label,ai⟩))):=by
 have hc:iF ⟨2,d,a,b,ag,loc,label,ai⟩=(eD ⟨2,d,a,b,ag,loc,label,ai⟩&&decide ((⟨2,0,a,0,0,loc,[],0⟩:ay)=⟨2,d,a,b,ag,loc,label,ai⟩)):=by
  rw[show decide ((⟨2,0,a,0,0,loc,[],0⟩:ay)=⟨2,d,a,b,ag,loc,label,ai⟩)=decide ((⟨2,d,a,b,ag,loc,label,ai⟩:ay)=⟨2,0,a,0,0,loc,[],0⟩)from decide_eq_decide.mpr eq_comm];rfl
 have ok:eD ⟨2,d,a,b,ag,loc,label,ai⟩=(aC loc&&fB a):=by cases k0:aC loc<;>cases k1:fB a<;>simp[eD,k0,k1]
 have he:dP ⟨2,d,a,b,ag,loc,label,ai⟩=if(((aC loc&&fB a))&&decide ((⟨2,0,a,0,0,loc,[],0⟩:ay)=⟨2,d,a,b,ag,loc,label,ai⟩))=true then 0 else 91:=by unfold dP;rw[hc,ok]
 clear hc ok;obtain⟨n,hn⟩: ∃n,n= !decide ((⟨2,0,a,0,0,loc,[],0⟩:ay)=⟨2,d,a,b,ag,loc,label,ai⟩):=⟨_,rfl⟩;have lY: ∀w,(binOp .neq 50 (.agg #[.int .i64 2,.int .i64 0,.int .i64 a,.int .i64 0,.int .i64 0,.string (tx loc),.string ⟨#[]⟩,.int .i64 0]) (.agg #[.int .i64 2,.int .i64 d,.int .i64 a,.int .i64 b,.int .i64 ag,.string (tx loc),.string (tx label),.int .i64 ai])).run prog w= .ok (.bool n) w:=fun w=>by rw[hn];exact gP ⟨2,0,a,0,0,loc,[],0⟩ ⟨2,d,a,b,ag,loc,label,ai⟩ w
 cases h0:aC loc<;>cases h1:fB a<;>cases hq:decide ((⟨2,0,a,0,0,loc,[],0⟩:ay)=⟨2,d,a,b,ag,loc,label,ai⟩)
 all_goals
  rw[hq]at hn;simp only[aqw,aqv]at hn;subst hn;rw[hq,h0,h1]at he;have HE:=hid he;replace h0:=hid h0;replace h1:=hid h1;clear he hq;go_in
  go_wp2_with (first|(go_at_call 177;refine av (Gg loc hl _) ?_;rw[h0.out])|(go_at_call 179;refine av (L5 a _) ?_;rw[h1.out]))
  go_ret;exact⟨bQ HE.out.symm,aF⟩
theorem amg(hl:loc.length<=9223372036854775807):Calls prog 97 #[vI ⟨3,d,a,b,ag,loc,label,ai⟩] w (aJ w (.int .i64 (dP ⟨3,d,a,b,ag,loc,label,ai⟩))):=by
 have hc:iF ⟨3,d,a,b,ag,loc,label,ai⟩=(eD ⟨3,d,a,b,ag,loc,label,ai⟩&&decide ((⟨3,d,0,0,0,loc,[],0⟩:ay)=⟨3,d,a,b,ag,loc,label,ai⟩)):=by
  rw[show decide ((⟨3,d,0,0,0,loc,[],0⟩:ay)=⟨3,d,a,b,ag,loc,label,ai⟩)=decide ((⟨3,d,a,b,ag,loc,label,ai⟩:ay)=⟨3,d,0,0,0,loc,[],0⟩)from decide_eq_decide.mpr eq_comm];rfl
 have ok:eD ⟨3,d,a,b,ag,loc,label,ai⟩=(aC loc&&fB d):=by cases k0:aC loc<;>cases k1:fB d<;>simp[eD,k0,k1]
 have he:dP ⟨3,d,a,b,ag,loc,label,ai⟩=if(((aC loc&&fB d))&&decide ((⟨3,d,0,0,0,loc,[],0⟩:ay)=⟨3,d,a,b,ag,loc,label,ai⟩))=true then 0 else 91:=by unfold dP;rw[hc,ok]
 clear hc ok;obtain⟨n,hn⟩: ∃n,n= !decide ((⟨3,d,0,0,0,loc,[],0⟩:ay)=⟨3,d,a,b,ag,loc,label,ai⟩):=⟨_,rfl⟩;have lY: ∀w,(binOp .neq 50 (.agg #[.int .i64 3,.int .i64 d,.int .i64 0,.int .i64 0,.int .i64 0,.string (tx loc),.string ⟨#[]⟩,.int .i64 0]) (.agg #[.int .i64 3,.int .i64 d,.int .i64 a,.int .i64 b,.int .i64 ag,.string (tx loc),.string (tx label),.int .i64 ai])).run prog w= .ok (.bool n) w:=fun w=>by rw[hn];exact gP ⟨3,d,0,0,0,loc,[],0⟩ ⟨3,d,a,b,ag,loc,label,ai⟩ w
 cases h0:aC loc<;>cases h1:fB d<;>cases hq:decide ((⟨3,d,0,0,0,loc,[],0⟩:ay)=⟨3,d,a,b,ag,loc,label,ai⟩)
 all_goals
  rw[hq]at hn;simp only[aqw,aqv]at hn;subst hn;rw[hq,h0,h1]at he;have HE:=hid he;replace h0:=hid h0;replace h1:=hid h1;clear he hq;go_in
  go_wp2_with (first|(go_at_call 177;refine av (Gg loc hl _) ?_;rw[h0.out])|(go_at_call 179;refine av (L5 d _) ?_;rw[h1.out]))
  go_ret;exact⟨bQ HE.out.symm,aF⟩
theorem amh(hl:loc.length<=9223372036854775807):Calls prog 97 #[vI ⟨4,d,a,b,ag,loc,label,ai⟩] w (aJ w (.int .i64 (dP ⟨4,d,a,b,ag,loc,label,ai⟩))):=by
 have hc:iF ⟨4,d,a,b,ag,loc,label,ai⟩=(eD ⟨4,d,a,b,ag,loc,label,ai⟩&&decide ((⟨4,d,0,0,ag,[],[],0⟩:ay)=⟨4,d,a,b,ag,loc,label,ai⟩)):=by
  rw[show decide ((⟨4,d,0,0,ag,[],[],0⟩:ay)=⟨4,d,a,b,ag,loc,label,ai⟩)=decide ((⟨4,d,a,b,ag,loc,label,ai⟩:ay)=⟨4,d,0,0,ag,[],[],0⟩)from decide_eq_decide.mpr eq_comm];rfl
 have ok:eD ⟨4,d,a,b,ag,loc,label,ai⟩=(fB d&&bO ag):=by cases k0:fB d<;>cases k1:bO ag<;>simp[eD,k0,k1]
 have he:dP ⟨4,d,a,b,ag,loc,label,ai⟩=if(((fB d&&bO ag))&&decide ((⟨4,d,0,0,ag,[],[],0⟩:ay)=⟨4,d,a,b,ag,loc,label,ai⟩))=true then 0 else 91:=by unfold dP;rw[hc,ok]
 clear hc ok;obtain⟨n,hn⟩: ∃n,n= !decide ((⟨4,d,0,0,ag,[],[],0⟩:ay)=⟨4,d,a,b,ag,loc,label,ai⟩):=⟨_,rfl⟩;have lY: ∀w,(binOp .neq 50 (.agg #[.int .i64 4,.int .i64 d,.int .i64 0,.int .i64 0,.int .i64 ag,.string ⟨#[]⟩,.string ⟨#[]⟩,.int .i64 0]) (.agg #[.int .i64 4,.int .i64 d,.int .i64 a,.int .i64 b,.int .i64 ag,.string (tx loc),.string (tx label),.int .i64 ai])).run prog w= .ok (.bool n) w:=fun w=>by rw[hn];exact gP ⟨4,d,0,0,ag,[],[],0⟩ ⟨4,d,a,b,ag,loc,label,ai⟩ w
 cases h0:fB d<;>cases h1:bO ag<;>cases hq:decide ((⟨4,d,0,0,ag,[],[],0⟩:ay)=⟨4,d,a,b,ag,loc,label,ai⟩)
 all_goals
  rw[hq]at hn;simp only[aqw,aqv]at hn;subst hn;rw[hq,h0,h1]at he;have HE:=hid he;replace h0:=hid h0;replace h1:=hid h1;clear he hq;go_in
  go_wp2_with (first|(go_at_call 179;refine av (L5 d _) ?_;rw[h0.out])|(go_at_call 178;refine av (Gh ag _) ?_;rw[h1.out]))
  go_ret;exact⟨bQ HE.out.symm,aF⟩
theorem ami(hl:loc.length<=9223372036854775807):Calls prog 97 #[vI ⟨5,d,a,b,ag,loc,label,ai⟩] w (aJ w (.int .i64 (dP ⟨5,d,a,b,ag,loc,label,ai⟩))):=by
 have hc:iF ⟨5,d,a,b,ag,loc,label,ai⟩=(eD ⟨5,d,a,b,ag,loc,label,ai⟩&&decide ((⟨5,0,0,0,0,[],[],0⟩:ay)=⟨5,d,a,b,ag,loc,label,ai⟩)):=by
  rw[show decide ((⟨5,0,0,0,0,[],[],0⟩:ay)=⟨5,d,a,b,ag,loc,label,ai⟩)=decide ((⟨5,d,a,b,ag,loc,label,ai⟩:ay)=⟨5,0,0,0,0,[],[],0⟩)from decide_eq_decide.mpr eq_comm];rfl
 have ok:eD ⟨5,d,a,b,ag,loc,label,ai⟩=true:=by simp[eD]
 have he:dP ⟨5,d,a,b,ag,loc,label,ai⟩=if((true)&&decide ((⟨5,0,0,0,0,[],[],0⟩:ay)=⟨5,d,a,b,ag,loc,label,ai⟩))=true then 0 else 91:=by unfold dP;rw[hc,ok]
 clear hc ok;obtain⟨n,hn⟩: ∃n,n= !decide ((⟨5,0,0,0,0,[],[],0⟩:ay)=⟨5,d,a,b,ag,loc,label,ai⟩):=⟨_,rfl⟩;have lY: ∀w,(binOp .neq 50 (.agg #[.int .i64 5,.int .i64 0,.int .i64 0,.int .i64 0,.int .i64 0,.string ⟨#[]⟩,.string ⟨#[]⟩,.int .i64 0]) (.agg #[.int .i64 5,.int .i64 d,.int .i64 a,.int .i64 b,.int .i64 ag,.string (tx loc),.string (tx label),.int .i64 ai])).run prog w= .ok (.bool n) w:=fun w=>by rw[hn];exact gP ⟨5,0,0,0,0,[],[],0⟩ ⟨5,d,a,b,ag,loc,label,ai⟩ w
 cases hq:decide ((⟨5,0,0,0,0,[],[],0⟩:ay)=⟨5,d,a,b,ag,loc,label,ai⟩)
 all_goals
  rw[hq]at hn;simp only[aqw,aqv]at hn;subst hn;rw[hq]at he;have HE:=hid he;clear he hq;go_in;go_wp2;go_ret;exact⟨bQ HE.out.symm,aF⟩
theorem amj(ho:op<1\/5<op):Calls prog 97 #[vI ⟨op,d,a,b,ag,loc,label,ai⟩] w (aJ w (.int .i64 (dP ⟨op,d,a,b,ag,loc,label,ai⟩))):=by
 have hc:iF ⟨op,d,a,b,ag,loc,label,ai⟩=false:=by
  unfold iF eD;simp only;rw[if_neg (by omega),if_neg (by omega),if_neg (by omega),if_neg (by omega),decide_eq_false (by omega)];rfl
 have HE:=hid (SJ hc);clear hc;have z1:(op==1)=false:=ah;have z2:(op==2)=false:=ah;have z3:(op==3)=false:=ah;have z4:(op==4)=false:=ah;have z5:(op==5)=false:=ah;clear ho;go_in;go_wp2;go_ret;exact⟨bQ HE.out.symm,aF⟩
end
theorem aad(i:ay)(hl:i.loc.length<=9223372036854775807)(w:World):Calls prog 97 #[vI i] w (aJ w (.int .i64 (dP i))):=by
 obtain⟨op,d,a,b,ag,loc,label,ai⟩:=i
 by_cases h1:op=1
 ·subst h1;exact ame _ _ _ _ _ _ _ _ hl
 by_cases h2:op=2
 ·subst h2;exact amf _ _ _ _ _ _ _ _ hl
 by_cases h3:op=3
 ·subst h3;exact amg _ _ _ _ _ _ _ _ hl
 by_cases h4:op=4
 ·subst h4;exact amh _ _ _ _ _ _ _ _ hl
 by_cases h5:op=5
 ·subst h5;exact ami _ _ _ _ _ _ _ _ hl
 exact amj _ _ _ _ _ _ _ _ _ (by omega)
section
variable (op d a b ag:Int) (loc label:Tx) (ai:Int) (w:World)
theorem aiM(hl:loc.length<=9223372036854775807):Calls prog 302 #[vI ⟨1,d,a,b,ag,loc,label,ai⟩] w (aJ w (.int .i64 (dP ⟨1,d,a,b,ag,loc,label,ai⟩))):=by
 have hc:iF ⟨1,d,a,b,ag,loc,label,ai⟩=(eD ⟨1,d,a,b,ag,loc,label,ai⟩&&decide ((⟨1,0,0,0,ag,loc,[],0⟩:ay)=⟨1,d,a,b,ag,loc,label,ai⟩)):=by
  rw[show decide ((⟨1,0,0,0,ag,loc,[],0⟩:ay)=⟨1,d,a,b,ag,loc,label,ai⟩)=decide ((⟨1,d,a,b,ag,loc,label,ai⟩:ay)=⟨1,0,0,0,ag,loc,[],0⟩)from decide_eq_decide.mpr eq_comm];rfl
 have ok:eD ⟨1,d,a,b,ag,loc,label,ai⟩=(aC loc&&bO ag):=by cases k0:aC loc<;>cases k1:bO ag<;>simp[eD,k0,k1]
 have he:dP ⟨1,d,a,b,ag,loc,label,ai⟩=if(((aC loc&&bO ag))&&decide ((⟨1,0,0,0,ag,loc,[],0⟩:ay)=⟨1,d,a,b,ag,loc,label,ai⟩))=true then 0 else 91:=by unfold dP;rw[hc,ok]
 clear hc ok;obtain⟨n,hn⟩: ∃n,n= !decide ((⟨1,0,0,0,ag,loc,[],0⟩:ay)=⟨1,d,a,b,ag,loc,label,ai⟩):=⟨_,rfl⟩;have lY: ∀w,(binOp .neq 50 (.agg #[.int .i64 1,.int .i64 0,.int .i64 0,.int .i64 0,.int .i64 ag,.string (tx loc),.string ⟨#[]⟩,.int .i64 0]) (.agg #[.int .i64 1,.int .i64 d,.int .i64 a,.int .i64 b,.int .i64 ag,.string (tx loc),.string (tx label),.int .i64 ai])).run prog w= .ok (.bool n) w:=fun w=>by rw[hn];exact gP ⟨1,0,0,0,ag,loc,[],0⟩ ⟨1,d,a,b,ag,loc,label,ai⟩ w
 cases h0:aC loc<;>cases h1:bO ag<;>cases hq:decide ((⟨1,0,0,0,ag,loc,[],0⟩:ay)=⟨1,d,a,b,ag,loc,label,ai⟩)
 all_goals
  rw[hq]at hn;simp only[aqw,aqv]at hn;subst hn;rw[hq,h0,h1]at he;have HE:=hid he;replace h0:=hid h0;replace h1:=hid h1;clear he hq;go_in
  go_wp2_with (first|(go_at_call 252;refine av (yP loc hl _) ?_;rw[h0.out])|(go_at_call 309;refine av (C8 ag _) ?_;rw[h1.out]))
  go_ret;exact⟨bQ HE.out.symm,aF⟩
theorem aiN(hl:loc.length<=9223372036854775807):Calls prog 302 #[vI ⟨2,d,a,b,ag,loc,label,ai⟩] w (aJ w (.int .i64 (dP ⟨2,d,a,b,ag,loc,label,ai⟩))):=by
 have hc:iF ⟨2,d,a,b,ag,loc,label,ai⟩=(eD ⟨2,d,a,b,ag,loc,label,ai⟩&&decide ((⟨2,0,a,0,0,loc,[],0⟩:ay)=⟨2,d,a,b,ag,loc,label,ai⟩)):=by
  rw[show decide ((⟨2,0,a,0,0,loc,[],0⟩:ay)=⟨2,d,a,b,ag,loc,label,ai⟩)=decide ((⟨2,d,a,b,ag,loc,label,ai⟩:ay)=⟨2,0,a,0,0,loc,[],0⟩)from decide_eq_decide.mpr eq_comm];rfl
 have ok:eD ⟨2,d,a,b,ag,loc,label,ai⟩=(aC loc&&fB a):=by cases k0:aC loc<;>cases k1:fB a<;>simp[eD,k0,k1]
 have he:dP ⟨2,d,a,b,ag,loc,label,ai⟩=if(((aC loc&&fB a))&&decide ((⟨2,0,a,0,0,loc,[],0⟩:ay)=⟨2,d,a,b,ag,loc,label,ai⟩))=true then 0 else 91:=by unfold dP;rw[hc,ok]
 clear hc ok;obtain⟨n,hn⟩: ∃n,n= !decide ((⟨2,0,a,0,0,loc,[],0⟩:ay)=⟨2,d,a,b,ag,loc,label,ai⟩):=⟨_,rfl⟩;have lY: ∀w,(binOp .neq 50 (.agg #[.int .i64 2,.int .i64 0,.int .i64 a,.int .i64 0,.int .i64 0,.string (tx loc),.string ⟨#[]⟩,.int .i64 0]) (.agg #[.int .i64 2,.int .i64 d,.int .i64 a,.int .i64 b,.int .i64 ag,.string (tx loc),.string (tx label),.int .i64 ai])).run prog w= .ok (.bool n) w:=fun w=>by rw[hn];exact gP ⟨2,0,a,0,0,loc,[],0⟩ ⟨2,d,a,b,ag,loc,label,ai⟩ w
 cases h0:aC loc<;>cases h1:fB a<;>cases hq:decide ((⟨2,0,a,0,0,loc,[],0⟩:ay)=⟨2,d,a,b,ag,loc,label,ai⟩)
 all_goals
  rw[hq]at hn;simp only[aqw,aqv]at hn;subst hn;rw[hq,h0,h1]at he;have HE:=hid he;replace h0:=hid h0;replace h1:=hid h1;clear he hq;go_in
  go_wp2_with (first|(go_at_call 252;refine av (yP loc hl _) ?_;rw[h0.out])|(go_at_call 333;refine av (Ni a _) ?_;rw[h1.out]))
  go_ret;exact⟨bQ HE.out.symm,aF⟩
theorem aiO(hl:loc.length<=9223372036854775807):Calls prog 302 #[vI ⟨3,d,a,b,ag,loc,label,ai⟩] w (aJ w (.int .i64 (dP ⟨3,d,a,b,ag,loc,label,ai⟩))):=by
 have hc:iF ⟨3,d,a,b,ag,loc,label,ai⟩=(eD ⟨3,d,a,b,ag,loc,label,ai⟩&&decide ((⟨3,d,0,0,0,loc,[],0⟩:ay)=⟨3,d,a,b,ag,loc,label,ai⟩)):=by
  rw[show decide ((⟨3,d,0,0,0,loc,[],0⟩:ay)=⟨3,d,a,b,ag,loc,label,ai⟩)=decide ((⟨3,d,a,b,ag,loc,label,ai⟩:ay)=⟨3,d,0,0,0,loc,[],0⟩)from decide_eq_decide.mpr eq_comm];rfl
 have ok:eD ⟨3,d,a,b,ag,loc,label,ai⟩=(fB d&&aC loc):=by cases k0:fB d<;>cases k1:aC loc<;>simp[eD,k0,k1]
 have he:dP ⟨3,d,a,b,ag,loc,label,ai⟩=if(((fB d&&aC loc))&&decide ((⟨3,d,0,0,0,loc,[],0⟩:ay)=⟨3,d,a,b,ag,loc,label,ai⟩))=true then 0 else 91:=by unfold dP;rw[hc,ok]
 clear hc ok;obtain⟨n,hn⟩: ∃n,n= !decide ((⟨3,d,0,0,0,loc,[],0⟩:ay)=⟨3,d,a,b,ag,loc,label,ai⟩):=⟨_,rfl⟩;have lY: ∀w,(binOp .neq 50 (.agg #[.int .i64 3,.int .i64 d,.int .i64 0,.int .i64 0,.int .i64 0,.string (tx loc),.string ⟨#[]⟩,.int .i64 0]) (.agg #[.int .i64 3,.int .i64 d,.int .i64 a,.int .i64 b,.int .i64 ag,.string (tx loc),.string (tx label),.int .i64 ai])).run prog w= .ok (.bool n) w:=fun w=>by rw[hn];exact gP ⟨3,d,0,0,0,loc,[],0⟩ ⟨3,d,a,b,ag,loc,label,ai⟩ w
 cases h0:fB d<;>cases h1:aC loc<;>cases hq:decide ((⟨3,d,0,0,0,loc,[],0⟩:ay)=⟨3,d,a,b,ag,loc,label,ai⟩)
 all_goals
  rw[hq]at hn;simp only[aqw,aqv]at hn;subst hn;rw[hq,h0,h1]at he;have HE:=hid he;replace h0:=hid h0;replace h1:=hid h1;clear he hq;go_in
  go_wp2_with (first|(go_at_call 333;refine av (Ni d _) ?_;rw[h0.out])|(go_at_call 252;refine av (yP loc hl _) ?_;rw[h1.out]))
  go_ret;exact⟨bQ HE.out.symm,aF⟩
theorem aiP(hl:loc.length<=9223372036854775807):Calls prog 302 #[vI ⟨4,d,a,b,ag,loc,label,ai⟩] w (aJ w (.int .i64 (dP ⟨4,d,a,b,ag,loc,label,ai⟩))):=by
 have hc:iF ⟨4,d,a,b,ag,loc,label,ai⟩=(eD ⟨4,d,a,b,ag,loc,label,ai⟩&&decide ((⟨4,d,0,0,ag,[],[],0⟩:ay)=⟨4,d,a,b,ag,loc,label,ai⟩)):=by
  rw[show decide ((⟨4,d,0,0,ag,[],[],0⟩:ay)=⟨4,d,a,b,ag,loc,label,ai⟩)=decide ((⟨4,d,a,b,ag,loc,label,ai⟩:ay)=⟨4,d,0,0,ag,[],[],0⟩)from decide_eq_decide.mpr eq_comm];rfl
 have ok:eD ⟨4,d,a,b,ag,loc,label,ai⟩=(fB d&&bO ag):=by cases k0:fB d<;>cases k1:bO ag<;>simp[eD,k0,k1]
 have he:dP ⟨4,d,a,b,ag,loc,label,ai⟩=if(((fB d&&bO ag))&&decide ((⟨4,d,0,0,ag,[],[],0⟩:ay)=⟨4,d,a,b,ag,loc,label,ai⟩))=true then 0 else 91:=by unfold dP;rw[hc,ok]
 clear hc ok;obtain⟨n,hn⟩: ∃n,n= !decide ((⟨4,d,0,0,ag,[],[],0⟩:ay)=⟨4,d,a,b,ag,loc,label,ai⟩):=⟨_,rfl⟩;have lY: ∀w,(binOp .neq 50 (.agg #[.int .i64 4,.int .i64 d,.int .i64 0,.int .i64 0,.int .i64 ag,.string ⟨#[]⟩,.string ⟨#[]⟩,.int .i64 0]) (.agg #[.int .i64 4,.int .i64 d,.int .i64 a,.int .i64 b,.int .i64 ag,.string (tx loc),.string (tx label),.int .i64 ai])).run prog w= .ok (.bool n) w:=fun w=>by rw[hn];exact gP ⟨4,d,0,0,ag,[],[],0⟩ ⟨4,d,a,b,ag,loc,label,ai⟩ w
 cases h0:fB d<;>cases h1:bO ag<;>cases hq:decide ((⟨4,d,0,0,ag,[],[],0⟩:ay)=⟨4,d,a,b,ag,loc,label,ai⟩)
 all_goals
  rw[hq]at hn;simp only[aqw,aqv]at hn;subst hn;rw[hq,h0,h1]at he;have HE:=hid he;replace h0:=hid h0;replace h1:=hid h1;clear he hq;go_in
  go_wp2_with (first|(go_at_call 333;refine av (Ni d _) ?_;rw[h0.out])|(go_at_call 309;refine av (C8 ag _) ?_;rw[h1.out]))
  go_ret;exact⟨bQ HE.out.symm,aF⟩
theorem aiQ(hl:loc.length<=9223372036854775807):Calls prog 302 #[vI ⟨5,d,a,b,ag,loc,label,ai⟩] w (aJ w (.int .i64 (dP ⟨5,d,a,b,ag,loc,label,ai⟩))):=by
 have hc:iF ⟨5,d,a,b,ag,loc,label,ai⟩=(eD ⟨5,d,a,b,ag,loc,label,ai⟩&&decide ((⟨5,0,0,0,0,[],[],0⟩:ay)=⟨5,d,a,b,ag,loc,label,ai⟩)):=by
  rw[show decide ((⟨5,0,0,0,0,[],[],0⟩:ay)=⟨5,d,a,b,ag,loc,label,ai⟩)=decide ((⟨5,d,a,b,ag,loc,label,ai⟩:ay)=⟨5,0,0,0,0,[],[],0⟩)from decide_eq_decide.mpr eq_comm];rfl
 have ok:eD ⟨5,d,a,b,ag,loc,label,ai⟩=true:=by simp[eD]
 have he:dP ⟨5,d,a,b,ag,loc,label,ai⟩=if((true)&&decide ((⟨5,0,0,0,0,[],[],0⟩:ay)=⟨5,d,a,b,ag,loc,label,ai⟩))=true then 0 else 91:=by unfold dP;rw[hc,ok]
 clear hc ok;obtain⟨n,hn⟩: ∃n,n= !decide ((⟨5,0,0,0,0,[],[],0⟩:ay)=⟨5,d,a,b,ag,loc,label,ai⟩):=⟨_,rfl⟩;have lY: ∀w,(binOp .neq 50 (.agg #[.int .i64 5,.int .i64 0,.int .i64 0,.int .i64 0,.int .i64 0,.string ⟨#[]⟩,.string ⟨#[]⟩,.int .i64 0]) (.agg #[.int .i64 5,.int .i64 d,.int .i64 a,.int .i64 b,.int .i64 ag,.string (tx loc),.string (tx label),.int .i64 ai])).run prog w= .ok (.bool n) w:=fun w=>by rw[hn];exact gP ⟨5,0,0,0,0,[],[],0⟩ ⟨5,d,a,b,ag,loc,label,ai⟩ w
 cases hq:decide ((⟨5,0,0,0,0,[],[],0⟩:ay)=⟨5,d,a,b,ag,loc,label,ai⟩)
 all_goals
  rw[hq]at hn;simp only[aqw,aqv]at hn;subst hn;rw[hq]at he;have HE:=hid he;clear he hq;go_in;go_wp2;go_ret;exact⟨bQ HE.out.symm,aF⟩
theorem aiR(ho:op<1\/5<op):Calls prog 302 #[vI ⟨op,d,a,b,ag,loc,label,ai⟩] w (aJ w (.int .i64 (dP ⟨op,d,a,b,ag,loc,label,ai⟩))):=by
 have hc:iF ⟨op,d,a,b,ag,loc,label,ai⟩=false:=by
  unfold iF eD;simp only;rw[if_neg (by omega),if_neg (by omega),if_neg (by omega),if_neg (by omega),decide_eq_false (by omega)];rfl
 have HE:=hid (SJ hc);clear hc;have z1:(op==1)=false:=ah;have z2:(op==2)=false:=ah;have z3:(op==3)=false:=ah;have z4:(op==4)=false:=ah;have z5:(op==5)=false:=ah;clear ho;go_in;go_wp2;go_ret;exact⟨bQ HE.out.symm,aF⟩
end
theorem aiL(i:ay)(hl:i.loc.length<=9223372036854775807)(w:World):Calls prog 302 #[vI i] w (aJ w (.int .i64 (dP i))):=by
 obtain⟨op,d,a,b,ag,loc,label,ai⟩:=i
 by_cases h1:op=1
 ·subst h1;exact aiM _ _ _ _ _ _ _ _ hl
 by_cases h2:op=2
 ·subst h2;exact aiN _ _ _ _ _ _ _ _ hl
 by_cases h3:op=3
 ·subst h3;exact aiO _ _ _ _ _ _ _ _ hl
 by_cases h4:op=4
 ·subst h4;exact aiP _ _ _ _ _ _ _ _ hl
 by_cases h5:op=5
 ·subst h5;exact aiQ _ _ _ _ _ _ _ _ hl
 exact aiR _ _ _ _ _ _ _ _ _ (by omega)
end Go.Proofs.YtkbbgjloifmmbaaGreatDoor
