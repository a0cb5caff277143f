/- What ReadBackP leans on, part 34. -/
import Derived.Test.YtkbbgjloifmmbaaGreatDoorRb33
import Derived.Maps.OwnOps
import Derived.StringKeys
set_option linter.unusedVariables false
set_option maxRecDepth 100000
set_option maxHeartbeats 12800000
namespace Go.Proofs.YtkbbgjloifmmbaaGreatDoor
open _root_.Go.Proofs.Tryz
open _root_.List renaming getElem?_eq_getElem->amK,getElem?_eq_some_iff->ano,replicate_succ->ap2,replicate->ao8,append_assoc->anF,mem_iff_getElem?->aoh,set_append_right->ap3,mem_of_getElem?->aou,set_cons_zero->ap5,any_eq_true->apW,all_eq_true->anq,getElem_mem->apw
open _root_.Nat renaming lt_succ_iff_lt_or_eq->an5,not_lt_zero->aoe
open _root_.Option.some renaming inj->aoX
open _root_.Go.World.ownsMap renaming kept->ap4
open _root_.Bool renaming eq_iff_iff->anW
open _root_.UInt8 renaming toNat_inj->apB
open Go.RowKit Go.Sort
theorem akP(l:Tx)(hl:l.length<=9223372036854775807)(w:World):Calls prog 68 #[.string (tx l),.string ⟨#[32]⟩] w (ax w (.string (tx (Lib.trimB l 32)))):=by
 refine(Any.strings_Trim_laid Tryz.RU (by kernel_rfl) (tx l) ⟨#[32]⟩ w (by rw[aP];exact hl) (by decide) (ascii_of_all (by decide))).mono fun e w' hh=>⟨?_,hh.2⟩
 rw[hh.1,gO,show(⟨#[32]⟩:ByteArray).data.toList=[32]from rfl,Lib.trimS_one];rfl
theorem aht(l:Tx)(hl:l.length<=9223372036854775807)(w:World):Calls prog 166 #[.string (tx l)] w fun e w'=>e= .returned (.bool (eY l))/\w=w':=by
 obtain⟨n,hn⟩: ∃n,(tx l).size=n:=⟨_,rfl⟩;have lH:l.length=n:=by rw[<-hn,aP]
 have HN:=hid lH;rw[lH]at hl;clear lH
 by_cases hb:262144<n
 ·have HF:=hid (show eY l=false by unfold eY;rw[HN.out,decide_eq_false (by omega)];rfl)
  go_in;go_wp2_with fail;go_ret;exact⟨aJ HF.out.symm,rfl⟩
 have HT:=hid (show eY l=(mK 32 l&&oU l) by unfold eY;rw[HN.out,decide_eq_true (by omega)];rfl);go_in;go_wp2_with fail
 go_loop [3] (fun i=> ∃k:Nat,k<=n/\i= .int .i64 k/\Hid (∀(i:Nat) (x:UInt8),i<k->l[i]? =some x->iW 32 x=true)) (fun i=>n-(intOf i).toNat)
 case atStart=>exact⟨0,by omega,rfl,fun i x hi=>absurd hi (aoe i)⟩
 case round=>
  obtain⟨k,hk,rfl,HM⟩:=hrel
  by_cases hlt:k<n
  ·obtain⟨x,hx⟩: ∃x,l[k]? =some x:=⟨_,amK (by rw[HN.out];exact hlt)⟩
   have ix:=iV l k x hx;have hlt':x.toNat<256:=x.toNat_lt;obtain⟨m,hm⟩: ∃m,x.toNat=m:=⟨_,rfl⟩;have HC:=hid (show iW 32 x=(decide (32<=m)&&(decide (m<=126)&&decide (m≠34))) by rw[KW,hm]);rw[hm]at ix hlt';have HF:=hid (fun h=>KV (lo:=32) (l:=l) (k:=k) (c:=x) hx h)
   have dF:iW 32 x=true->Hid (∀(i:Nat) (y:UInt8),i<k+1->l[i]? =some y->iW 32 y=true):=fun hx' i y hi hy=>by
    rcases an5.1 hi with h|h
    ·exact HM.out i y h hy
    ·subst h;rw[hx]at hy;cases hy;exact hx'
   have dF:=hid dF;clear hm hx HM;have hp:m<32\/(32<=m/\m=34)\/(32<=m/\m<=126/\m≠34)\/126<m:=by omega
   rcases hp with h|⟨h,h'⟩|⟨h,h',h''⟩|h
   all_goals
    (try(have WN:((m:Int)==34)=false:=by simp;omega))
    (try subst h')
    go_wp2_with fail
    first
    |(go_round
      case rel=>exact⟨k+1,by omega,by go_num,dF.out (by rw[HC.out];simp<;>omega)⟩
      case measure=>simp[intOf];omega)
    |(go_ret
      exact⟨aJ ((fun h=>(HT.out.trans (by rw[h,Bool.false_and])).symm) (HF.out (by rw[HC.out];simp<;>omega))),rfl⟩)
  ·have HS:=hid (KU (lo:=32) (l:=l) (fun i x hi=>HM.out i x (by
    have h1:=(ano.1 hi).1;have:=HN.out
    omega) hi))
   by_cases hz:n=0
   ·have HF:=hid (show oU l=true by have:=List.eq_nil_of_length_eq_zero (HN.out.trans hz);rw[this];rfl)
    have HT:=hid (HT.out.trans (show(mK 32 l&&oU l)=true by rw[HS.out,HF.out,Bool.and_self]));subst hz;clear HM HS HF;go_wp2_with fail;go_ret;exact⟨aJ HT.out.symm,rfl⟩
   ·obtain⟨m,hm⟩: ∃m,n=m+1:=⟨n-1,by omega⟩
    obtain⟨x,hx⟩: ∃x,l[0]? =some x:=⟨_,amK (by rw[HN.out];omega)⟩;obtain⟨y,hy⟩: ∃y,l[m]? =some y:=⟨_,amK (by rw[HN.out];omega)⟩;have ix:=mJ l x hx;have iy:=iV l m y hy;rw[show(m:Int)=(n:Int)-1 by omega]at iy;have jt:l.head?=some x:=by rw[List.head?_eq_getElem?];exact hx
    have bN:l.getLast?=some y:=by rw[List.getLast?_eq_getElem?,HN.out,hm];exact hy
    have hne:l.isEmpty=false:=by cases l with
     |nil=>have:=HN.out;simp at this;omega
     |cons _ _=>rfl
    obtain⟨p,hp⟩: ∃p,x.toNat=p:=⟨_,rfl⟩;obtain⟨q,hq⟩: ∃q,y.toNat=q:=⟨_,rfl⟩
    have QX:(some x != some (32:UInt8))=decide (p≠32):=by
     rw[anW];simp[<-hp,<-apB]
    have Q0:(some y != some (32:UInt8))=decide (q≠32):=by
     rw[anW];simp[<-hq,<-apB]
    have HT:=hid (show eY l=(decide (p≠32)&&decide (q≠32)) by rw[HT.out,HS.out];unfold oU;rw[jt,bN,QX,Q0,hne];rfl);rw[hp]at ix;rw[hq]at iy;clear hx hy jt bN hne hp hq QX Q0 HM HS hm;have h1n:(1:Int)<=n:=by omega
    have z0:((n:Int)==0)=false:=by simp;omega
    clear hz
    by_cases hp:p=32
    ·subst hp
     go_wp2_with fail;go_ret;exact⟨aJ (by rw[HT.out];first|rfl|simp[h1n,z0]|(simp;omega)),rfl⟩
    ·have zp:((p:Int) != 32)=true:=by simp;omega
     by_cases hq:q=32
     ·subst hq
      go_wp2_with fail;go_ret;exact⟨aJ (by rw[HT.out];first|rfl|(simp<;>omega)),rfl⟩
     ·have zq:((q:Int) != 32)=true:=by simp;omega
      go_wp2_with fail;go_ret;exact⟨aJ (by rw[HT.out];first|rfl|(simp[hp,hq]<;>omega)),rfl⟩
end Go.Proofs.YtkbbgjloifmmbaaGreatDoor
namespace Go.Proofs.YtkbbgjloifmmbaaGreatDoor
open _root_.Go.Proofs.Tryz
open _root_.List renaming getElem?_eq_getElem->amK,getElem?_eq_some_iff->ano,replicate_succ->ap2,replicate->ao8,append_assoc->anF,mem_iff_getElem?->aoh,set_append_right->ap3,mem_of_getElem?->aou,set_cons_zero->ap5,any_eq_true->apW,all_eq_true->anq,getElem_mem->apw
open _root_.Nat renaming lt_succ_iff_lt_or_eq->an5,not_lt_zero->aoe
open _root_.Option.some renaming inj->aoX
open _root_.Go.World.ownsMap renaming kept->ap4
open _root_.Bool renaming eq_iff_iff->anW
open _root_.UInt8 renaming toNat_inj->apB
theorem Oj{t:ak}(h:t.code.length<1\/16<t.code.length):cg t=2:=by unfold cg;rw[if_pos h]
theorem Oi{t:ak}{k:Nat}{x:Cd}(h: ¬(t.code.length<1\/16<t.code.length))(hx:t.code[k]? =some x)(hl:256<x.l.length):cg t=2:=by
 unfold cg;rw[if_neg h,if_pos];rw[apW];exact⟨x,aou hx,by simpa using hl⟩
theorem Ok{t:ak}(h: ¬(t.code.length<1\/16<t.code.length))(hl: ∀(k:Nat) (x:Cd),t.code[k]? =some x->x.l.length<=256):cg t=gY t.af t.code:=by
 unfold cg;rw[if_neg h,if_neg];rw[apW];rintro⟨x,hx,h2⟩;obtain⟨k,hk⟩:=aoh.1 hx;have:=hl k x hk;simp at h2;omega
theorem Vq{af:Int}{l:List Cd}{k:Nat}{x:Cd}(hk:l[k]? =some x):gY af (l.drop k)=if lW af x.l=0 then gY af (l.drop (k+1))else lW af x.l:=by
 obtain⟨hlt,rfl⟩:=ano.1 hk;rw[List.drop_eq_getElem_cons hlt,gY]
theorem Vr{af:Int}{l:List Cd}:gY af (l.drop l.length)=0:=by rw[List.drop_length];rfl
theorem Ve{af:Int}{l:List Ins}{k:Nat}{i:Ins}(hk:l[k]? =some i)(h:gF af i=false):lW af l=91:=by
 unfold lW;rw[if_neg];intro h2;rw[anq]at h2;rw[h2 i (aou hk)]at h;cases h
theorem Vd{af:Int}{l:List Ins}(h: ∀(k:Nat) (i:Ins),l[k]? =some i->gF af i=true):lW af l=if af=2 then(gG l).2.1 else 0:=by
 unfold lW;rw[if_pos];rw[anq];intro i hi;obtain⟨k,hk⟩:=aoh.1 hi;exact h k i hk
end Go.Proofs.YtkbbgjloifmmbaaGreatDoor
namespace Go.Proofs.YtkbbgjloifmmbaaGreatDoor
open _root_.Go.Proofs.Tryz
open _root_.List renaming getElem?_eq_getElem->amK,getElem?_eq_some_iff->ano,replicate_succ->ap2,replicate->ao8,append_assoc->anF,mem_iff_getElem?->aoh,set_append_right->ap3,mem_of_getElem?->aou,set_cons_zero->ap5,any_eq_true->apW,all_eq_true->anq,getElem_mem->apw
open _root_.Nat renaming lt_succ_iff_lt_or_eq->an5,not_lt_zero->aoe
open _root_.Option.some renaming inj->aoX
open _root_.Go.World.ownsMap renaming kept->ap4
open _root_.Bool renaming eq_iff_iff->anW
open _root_.UInt8 renaming toNat_inj->apB
open Go.RowKit Go.Maps Go.WideMaps
attribute [local go_sem high] qa jX
def iL(r:List Int × Int × Int)(w:World)(e:Ending)(w':World):Prop:=
 ∃a c,e= .returned (.tuple #[.slice a r.1.length c,.int .i64 r.2.1,.int .i64 r.2.2])/\cI w' w.heap.size a r.1.length c r.1/\Below w.heap.size w w'
theorem iL.nil{r:List Int × Int × Int}{x y:Int}{w w':World}{e:Ending}(hr:r=([],x,y))(he:e= .returned (.tuple #[.slice none 0 0,.int .i64 x,.int .i64 y]))(hb:Below w.heap.size w w'):iL r w e w':=by
 subst hr he;exact⟨none,0,rfl,Own.nil _ _ _ _,hb⟩
theorem iL.of{r:List Int × Int × Int}{l:List Int}{x y:Int}{n c:Nat}{a:Option Addr}{w w':World}{e:Ending}(hr:r=(l,x,y))(he:e= .returned (.tuple #[.slice a n c,.int .i64 x,.int .i64 y]))(hn:l.length=n)(ho:cI w' w.heap.size a n c l)(hb:Below w.heap.size w w'):iL r w e w':=by
 subst hr he hn;exact⟨a,c,rfl,ho,hb⟩
theorem vU:Keyed prog 9:=string_keyed underlying9
theorem zi(w:World):(zeroValue 3).run prog w= .ok (.int .i64 0) w:=by kernel_rfl
theorem RM(l:Tx)(h:l.length<=1000000):keyOf prog 9 (.string (tx l))=some (.string l):=by
 rw[keyOf_string_mk underlying9 (by rw[aP];unfold maxLen;omega),gO]
def oJ(w:World)(b n:Nat)(D:DataW Unit):Prop:=w.ownsMap prog 9 (plainElem (H:=Unit) prog 3) b n D
theorem oJ.below{w w':World}{b n:Nat}{D:DataW Unit}(h:oJ w b n D)(hb:Below w.heap.size w w'):oJ w' b n D:=
 ap4 h ⟨hb.os,hb.tape,hb.output,hb.size,fun k hk _=>hb.block k hk⟩ (row:=none) (by simp)
theorem oJ.step{w w':World}{b n:Nat}{D:DataW Unit}{sa a':Option Addr}(h:oJ w b n D)(hs:Step w w' sa a')(hne:sa=none\/b≠bk sa):oJ w' b n D:=by
 refine ap4 h hs.grown ?_;cases sa with
 |none=>simp
 |some x=> rcases hne with h1|h1
           ·cases h1
           ·simpa[bk]using h1
theorem N7{i:Ins}(h:aU i=true):i.label.length<=1000000:=by
 obtain⟨ho,hw, -⟩:=xD h
 by_cases h1:i.op=11\/i.op=12
 ·unfold dn at ho
  rw[if_neg (by omega),if_pos h1]at ho;have:=(iU ho).2;omega
 ·have:i.label=[]:=by
   have:=congrArg Ins.label hw;rw[this];unfold kE
   split<;>(try rfl)
   split<;>(try rfl)
   split<;>(try rfl)
   split<;>(try rfl)
   split<;>(try rfl)
   split
   ·omega
   split
   ·omega
   split<;>rfl
  rw[this];simp
theorem agB(code:List Ins)(a:Option Addr)(c:Nat)(hl:256<code.length)(w:World):Calls prog 140 #[.slice a code.length c] w (iL (gG code) w):=by
 obtain⟨r,hr⟩: ∃r,gG code=r:=⟨_,rfl⟩;rw[hr];have HK:=hid (show r=([],2,0) by rw[<-hr,Sn hl]);have hz:decide (256<(code.length:Int))=true:=by simp;omega
 generalize code.length=n at*;clear hr hl;go_in;go_wp2_with fail
 go_ret3
 exact iL.nil HK.out rfl (Below.refl _ _)
def nN(n k:Nat):List Int:=ao8 k (-1)++ao8 (n-k) 0
theorem H9(n k:Nat)(h:k<=n):(nN n k).length=n:=by simp[nN];omega
theorem abl(n k:Nat)(h:k<n):(nN n k).set k (-1)=nN n (k+1):=by
 unfold nN;rw[ap3 _ _ (by simp)];simp only[List.length_replicate,Nat.sub_self];rw[show n-k=(n-(k+1))+1 by omega,ap2,ap5,List.replicate_succ',anF];rfl
def lE(code:List Ins)(n k:Nat):List Int:=qy code k++ao8 (n-k) (-1)
theorem DG(code:List Ins)(n k:Nat)(h:k<=n):(lE code n k).length=n:=by simp[lE,Kg];omega
theorem abm(code:List Ins)(n k:Nat)(h:k<n):(lE code n k).set k ((gZ code k).getD (-1))=lE code n (k+1):=by
 unfold lE;rw[ap3 _ _ (by rw[Kg];omega),Kg,Nat.sub_self,show n-k=(n-(k+1))+1 by omega,ap2,ap5,Ty,anF];rfl
theorem Pn(code:List Ins)(n k:Nat)(h:k<n)(hs:gZ code k=some (-1)):lE code n k=lE code n (k+1):=by
 unfold lE;rw[show n-k=(n-(k+1))+1 by omega,ap2,Ty,hs,anF];rfl
theorem abn(code:List Ins)(n:Nat):nN n n=lE code n 0:=by simp[nN,lE,qy]
theorem agC(code:List Ins)(a:Option Addr)(c:Nat)(hl:code.length<=256)(hc:code.length<=c)(hL: ∀i∈code,i.label.length<=9223372036854775807)(w:World)(hI:Is w a code):
 Calls prog 140 #[.slice a code.length c] w (iL (gG code) w):=by
 obtain⟨r,hr⟩: ∃r,gG code=r:=⟨_,rfl⟩;rw[hr];have HR:=hid hr;obtain⟨n,hn⟩: ∃n,code.length=n:=⟨_,rfl⟩;have HN:=hid hn;have HL:=hid hL;have hz:decide (256<(n:Int))=false:=by simp;omega
 have hmm:= @run_makeMap prog;rw[hn]at hl hc⊢;have hM:oJ (w.alloc (.map #[] 0)) w.heap.size 0 (.map []):=World.ownsMap_made _ _ _ _;have E0:=al w (.map #[] 0);clear hr hL hn;go_in
 go_wp2_with (at_make;go_loud(refine zh mA _ _ rfl rfl n rfl rfl rfl rfl (by omega) (by unfold maxLen;omega) (Below.refl (w.heap.size+1) (w.alloc (.map #[] 0))) (by simp) ?_))
 intro ao w1 o1 iG B1;rw[J1]at o1;have E1:Below (w.alloc (.map #[] 0)).heap.size (w.alloc (.map #[] 0)) w1:=by simpa using B1
 have hM:=hM.below E1;have E:=ay E0 E1;have o:cI w1 (w.heap.size+1) ao n n (nN n 0):=by rw[show nN n 0=ao8 n 0 by simp[nN]];exact o1
 have hap:ao=none\/w.heap.size≠bk ao:=by
  cases ao with
  |none=>exact .inl rfl
  |some x=>have:=(Own.lt o (by simp)).1;exact .inr (by omega)
 have FW:=hid hap;clear E0 E1 B1 o1 iG hap;have wV:=hid hI;clear hI;go_wp2_with fail
 go_loopw [23] (fun i wr=> ∃k:Nat,k<=n/\i= .int .i64 k/\Hid (∀j (hj:j<code.length),j<k->aU code[j]=true)/\cI wr (w.heap.size+1) ao n n (nN n k)/\oJ wr w.heap.size 0 (.map [])/\Below w.heap.size w wr) (fun i _=>n-(intOf i).toNat)
 case atStart=>exact⟨0,by omega,rfl,hid (fun j hj h'=>absurd h' (aoe j)),o,hM,E⟩
 case round=>
  clear o hM E;obtain⟨k,hk,rfl,HC,o,hM,E⟩:=hrel;have hI:=wV.out.below E
  by_cases hlt:k<n
  ·obtain⟨i,hi⟩: ∃i,code[k]? =some i:=⟨_,amK (by have:=HN.out;omega)⟩
   have hik:code[k]'(by have:=HN.out;omega)=i:=aoX ((amK (by have:=HN.out;omega)).symm.trans hi);obtain⟨p0,p1,p2,p3,p4,p5,p6,p7⟩:=hI.cells hi;have ix:=hI.idx k (by have:=HN.out;omega);rw[HN.out]at ix;have CK:=hid (fun(w:World)=>wj i (HL.out i (by rw[<-hik];exact apw _)) w);have HI:=hid hik;clear hi hik;cases cS:aU i
   ·have hE:=gS cS
    rw[hE]at CK
    have HF:=hid (show r=([],91,(k:Int)) by
     rw[<-HR.out];exact Sl (by have:=HN.out;omega) (by have:=HN.out;omega) (by rw[HI.out];exact cS) HC.out)
    clear hE cS;go_wp2_with fail;refine(CK.out _).mono ?_;rintro e w2 ⟨rfl,E2⟩;have E:=E.trans ((ay (al wr _) E2).mono E.size);clear p0 p1 p2 p3 p4 p5 p6 p7 ix o hM hI E2;go_wp2_with fail
    go_ret3
    exact iL.nil HF.out rfl E
   ·have hE:=rN cS
    rw[hE]at CK
    have wT:=hid (show ∀j (hj:j<code.length),j<k+1->aU code[j]=true from fun j hj hjk=>by
     by_cases hh:j=k
     ·subst hh;rw[HI.out];exact cS
     ·exact HC.out j hj (by omega))
    clear hE cS;go_wp2_with fail;refine(CK.out _).mono ?_;rintro e w2 ⟨rfl,E2⟩;have E3:=ay (al wr _) E2;have E:=E.trans (E3.mono E.size);have o:=Own.below o E3;have hM:=hM.below E3;have ij:=(o.ints.1).idx mA k (by rw[H9 n k hk];exact hlt);rw[H9 n k hk]at ij;have fj:=Own.frozen o (Own.some o (by omega)) k;obtain⟨cv,hcv⟩: ∃cv,w2.cell? ⟨bk ao,fo ao+k,none⟩=some cv:=⟨_,(o.ints.1).cell k (by rw[H9 n k hk];exact hlt)⟩;obtain⟨jh,gm⟩:=Own.set o (Own.some o (by omega)) k (.int .i64 (-1))
    have o2:cI (w2.setCell ⟨bk ao,fo ao+k,none⟩ (.int .i64 (-1))) (w.heap.size+1) ao n n (nN n (k+1)):=by
     rw[<-abl n k hlt];simpa only[cI,ints,List.map_set]using jh
    have vt:=hM.step gm FW.out;have E4:Below w.heap.size w (w2.setCell ⟨bk ao,fo ao+k,none⟩ (.int .i64 (-1))):=iM E (by have:=(Own.lt o (Own.some o (by omega))).1;dsimp only;omega) _;clear p0 p1 p2 p3 p4 p5 p6 p7 ix E2 E3 jh gm hI;go_wp2_with fail
    go_roundw
    case rel=>exact⟨k+1,by omega,by go_num,wT,o2,vt,E4⟩
    case measure=>simp[intOf];omega
  ·obtain rfl:k=n:=by omega
   have qR:=hid (show ∀j (hj:j<code.length),aU code[j]=true from fun j hj=>HC.out j hj (by have:=HN.out;omega));have hD:=hid (pS.nil code k (by have:=HN.out;omega));clear HC hI hlt hk;rw[abn code k]at o;generalize k=n at*;go_wp2_with fail
   go_loopw [9] (fun i wr=> ∃(m cnt:Nat) (D:DataW Unit) (z:Int),m<=n/\i= .int .i64 z/\z=(m:Int)-1/\cnt<=n/\cnt+m<=n/\Hid (pS code m D)/\cI wr (w.heap.size+1) ao n n (lE code n 0)/\oJ wr w.heap.size cnt D/\Below w.heap.size w wr) (fun i _=>(intOf i+1).toNat)
   case atStart=>exact⟨n,0,.map [],(n:Int)-1,by omega,rfl,rfl,by omega,by omega,hD,o,hM,E⟩
   case round=>
    clear o hM E hD;obtain⟨m,cnt,D,z,hm,rfl,hz1,hcn,hcm,hD,o,hM,E⟩:=hrel;have hI:=wV.out.below E
    by_cases hm0:m=0
    ·subst hm0
     obtain rfl:z= -1:=by omega
     clear hI hz1 hcm;go_wp2_with fail
     go_loopw [58] (fun i wr=> ∃k:Nat,k<=n/\i= .int .i64 k/\Hid (∀j,j<k->gZ code j≠none)/\cI wr (w.heap.size+1) ao n n (lE code n k)/\oJ wr w.heap.size cnt D/\Below w.heap.size w wr) (fun i _=>n-(intOf i).toNat)
     case atStart=>exact⟨0,by omega,rfl,hid (fun j h'=>absurd h' (aoe j)),o,hM,E⟩
     case round=>
      clear o hM E;obtain⟨k,hk,rfl,HS,o,hM,E⟩:=hrel;have hI:=wV.out.below E
      by_cases hlt:k<n
      ·obtain⟨i,hi⟩: ∃i,code[k]? =some i:=⟨_,amK (by have:=HN.out;omega)⟩
       obtain⟨p0,p1,p2,p3,p4,p5,p6,p7⟩:=hI.cells hi;have ix:=hI.idx k (by have:=HN.out;omega);rw[HN.out]at ix
       have ya:=N7 (i:=i) (by
        obtain⟨hlt,he⟩:=ano.1 hi;rw[<-he];exact qR.out k hlt)
       have oy:=hid (RM i.label ya)
       have hst:gZ code k=if i.op=12 then(if code.findIdx? (bR i.label)=some k then some (-1)else none)
        else if i.op=11 then(match code.findIdx? (bR i.label)with
         |none=>none
         |some at'=>if((code.drop (k+1)).findIdx? (bR i.label)).isSome then some (at':Int)else none)
        else some (-1):=by unfold gZ;rw[hi];rfl
       have HI:=hid hi;have CG:=hid (hD.out i.label);rw[List.drop_zero]at CG;clear hi ya
       by_cases h12:i.op=12
       ·have A0:bR i.label i=true:=by rw[ql];exact⟨h12,rfl⟩
        have z12:(i.op==12)=true:=by simpa using h12
        have Ci:(i.op==11)=false:=by rw[h12];rfl
        obtain⟨f,hf⟩: ∃f,code.findIdx? (bR i.label)=some f:=by
         cases hf:code.findIdx? (bR i.label)with
         |some f=>exact⟨f,rfl⟩
         | none=>
           rw[List.findIdx?_eq_none_iff]at hf;obtain⟨hlt,he⟩:=ano.1 HI.out;have:=hf code[k] (apw _);rw[he,A0]at this;cases this
        obtain⟨x8,tN⟩:=CG.out.1 f hf;rw[Nat.zero_add]at tN;have uH:=hid x8;have uI:=hid tN;rw[if_pos h12,hf]at hst;have pe:=hM.below (al wr (eC i))
        by_cases vB:f=k
        ·have zk:((f:Int) != (k:Int))=false:=by simp;omega
         rw[if_pos (by rw[vB])]at hst
         have iz:=hid (show ∀j,j<k+1->gZ code j≠none from fun j hj=>by
          rcases an5.1 hj with h|h
          ·exact HS.out j h
          ·subst h;rw[hst];simp)
         rw[Pn code n k hlt hst]at o;clear hst h12 A0 hf x8 tN vB
         go_wp2_with (at_lookup;go_loud(refine wpList_lookup_own_ok_int _ rfl _ _ 218 rfl 9 3 .i64 vU underlying218 underlying3 (zi _) w.heap.size cnt D rfl pe _ _ rfl oy.out ?_))
         intro cc hat hwf;rw[uI.out]at hat;obtain rfl:(f:Int)=cc:=by cases hat;rfl
         rw[uH.out];have o2:=Own.below o (al wr (eC i));have E2:=dD E (eC i);clear hat hwf o hM E p0 p1 p2 p3 p4 p5 p6 p7 ix hI;go_wp2_with fail
         go_roundw
         case rel=>exact⟨k+1,by omega,by go_num,iz,o2,pe,E2⟩
         case measure=>simp[intOf];omega
        ·have zk:((f:Int) != (k:Int))=true:=by simp;omega
         rw[if_neg (fun e=>vB (aoX e))]at hst
         have HF:=hid (show r=([],93,(k:Int)) by
          rw[<-HR.out];exact Es (by have:=HN.out;omega) qR.out (by have:=HN.out;omega) hst HS.out)
         clear hst h12 A0 hf x8 tN vB
         go_wp2_with (at_lookup;go_loud(refine wpList_lookup_own_ok_int _ rfl _ _ 218 rfl 9 3 .i64 vU underlying218 underlying3 (zi _) w.heap.size cnt D rfl pe _ _ rfl oy.out ?_))
         intro cc hat hwf;rw[uI.out]at hat;obtain rfl:(f:Int)=cc:=by cases hat;rfl
         rw[uH.out];have E2:=dD E (eC i);clear hat hwf o hM E p0 p1 p2 p3 p4 p5 p6 p7 ix hI;go_wp2_with fail
         go_ret3
         exact iL.nil HF.out rfl E2
       ·by_cases h11:i.op=11
        ·have z12:(i.op==12)=false:=by simpa using h12
         have Ci:(i.op==11)=true:=by simpa using h11
         rw[if_neg h12,if_pos h11]at hst;have pe:=hM.below (al wr (eC i));cases hf:code.findIdx? (bR i.label)with
         | none=>
           have uH:=hid (CG.out.2 hf);rw[hf]at hst
           have HF:=hid (show r=([],93,(k:Int)) by
            rw[<-HR.out];exact Es (by have:=HN.out;omega) qR.out (by have:=HN.out;omega) hst HS.out)
           clear hst h12 h11 hf
           go_wp2_with (at_lookup;go_loud(refine wpList_lookup_own_ok_int _ rfl _ _ 218 rfl 9 3 .i64 vU underlying218 underlying3 (zi _) w.heap.size cnt D rfl pe _ _ rfl oy.out ?_))
           intro cc hat hwf;rw[uH.out];have zm:=hid hat;have E2:=dD E (eC i);clear hat hwf o hM E p0 p1 p2 p3 p4 p5 p6 p7 ix hI;go_wp2_with fail
           go_ret3
           exact iL.nil HF.out rfl E2
         | some f=>
           obtain⟨x8,tN⟩:=CG.out.1 f hf;rw[Nat.zero_add]at tN;have uH:=hid x8;have uI:=hid tN;rw[hf]at hst;simp only at hst;have bx:=dK.new wr i;have hdr:=(hI.below (al wr (eC i))).drop (k+1) (c=k+1) (fun e=>by have:=HN.out;left;omega);have CF:=agd i wr.heap.size (code.drop (k+1)) (lC a (c=k+1) ((k+1)*8)) (c-(k+1)) (wr.alloc (eC i)) hdr bx;have sl: ∀w',(Instr.sliceAt 75 (.slice a n c) (some (.int .i64 ((k:Int)+1))) none none).run prog w'= .ok (.slice (lC a (c=k+1) ((k+1)*8)) (n-(k+1)) (c-(k+1))) w':=VB inl a n c (k+1) (by omega) .i64;rw[List.length_drop,HN.out]at CF;generalize lC a (c=k+1) ((k+1)*8)=ac at*;have Cx:=hid CF;clear x8 tN hf CF hdr;cases D3:((code.drop (k+1)).findIdx? (bR i.label)).isSome
           ·rw[D3]at hst Cx
            have HF:=hid (show r=([],93,(k:Int)) by
             rw[<-HR.out];exact Es (by have:=HN.out;omega) qR.out (by have:=HN.out;omega) hst HS.out)
            clear hst h12 h11 D3
            go_wp2_with (at_lookup;go_loud(refine wpList_lookup_own_ok_int _ rfl _ _ 218 rfl 9 3 .i64 vU underlying218 underlying3 (zi _) w.heap.size cnt D rfl pe _ _ rfl oy.out ?_))
            intro cc hat hwf;rw[uI.out]at hat;obtain rfl:(f:Int)=cc:=by cases hat;rfl
            rw[uH.out];clear hat hwf p0 p1 p2 p3 p4 p5 p6 p7 ix hI;go_wp2_with fail;refine Cx.out.mono ?_;rintro e w2 ⟨rfl,E2⟩;have E2:=E.trans ((ay (al wr _) E2).mono E.size);clear o hM E;go_wp2_with fail
            go_ret3
            exact iL.nil HF.out rfl E2
           ·rw[D3]at hst Cx
            have Jg:gZ code k=some (f:Int):=hst
            have iz:=hid (show ∀j,j<k+1->gZ code j≠none from fun j hj=>by
             rcases an5.1 hj with h|h
             ·exact HS.out j h
             ·subst h;rw[Jg];simp)
            have HST:=hid Jg;clear hst Jg h12 h11 D3
            go_wp2_with (at_lookup;go_loud(refine wpList_lookup_own_ok_int _ rfl _ _ 218 rfl 9 3 .i64 vU underlying218 underlying3 (zi _) w.heap.size cnt D rfl pe _ _ rfl oy.out ?_))
            intro cc hat hwf;rw[uI.out]at hat;obtain rfl:(f:Int)=cc:=by cases hat;rfl
            rw[uH.out];clear hat hwf p0 p1 p2 p3 p4 p5 p6 p7 ix hI;go_wp2_with fail;refine Cx.out.mono ?_;rintro e w2 ⟨rfl,E2⟩;have E3:=ay (al wr (eC i)) E2;have GM:=bx.below E2;obtain⟨q0,q1,q2,q3,q4,q5,q6,q7⟩:=GM.cells;have al1:=GM.1;have E4:=E.trans (E3.mono E.size);have o:=Own.below o E3;have hM:=hM.below E3;have ij:=(o.ints.1).idx mA k (by rw[DG code n k hk];exact hlt);rw[DG code n k hk]at ij;have fj:=Own.frozen o (Own.some o (by omega)) k;obtain⟨cv,hcv⟩: ∃cv,w2.cell? ⟨bk ao,fo ao+k,none⟩=some cv:=⟨_,(o.ints.1).cell k (by rw[DG code n k hk];exact hlt)⟩;obtain⟨jh,gm⟩:=Own.set o (Own.some o (by omega)) k (.int .i64 (f:Int))
            have o2:cI (w2.setCell ⟨bk ao,fo ao+k,none⟩ (.int .i64 (f:Int))) (w.heap.size+1) ao n n (lE code n (k+1)):=by
             have e:=abm code n k hlt;rw[HST.out,Option.getD_some]at e;rw[<-e];simpa only[cI,ints,List.map_set]using jh
            have vt:=hM.step gm FW.out;have E5:Below w.heap.size w (w2.setCell ⟨bk ao,fo ao+k,none⟩ (.int .i64 (f:Int))):=iM E4 (by have:=(Own.lt o (Own.some o (by omega))).1;dsimp only;omega) _;clear E2 E3 E4 E jh gm bx GM pe;go_wp2_with fail
            go_roundw
            case rel=>exact⟨k+1,by omega,by go_num,iz,o2,vt,E5⟩
            case measure=>simp[intOf];omega
        ·have z12:(i.op==12)=false:=by simpa using h12
         have Ci:(i.op==11)=false:=by simpa using h11
         rw[if_neg h12,if_neg h11]at hst
         have iz:=hid (show ∀j,j<k+1->gZ code j≠none from fun j hj=>by
          rcases an5.1 hj with h|h
          ·exact HS.out j h
          ·subst h;rw[hst];simp)
         rw[Pn code n k hlt hst]at o;clear hst h12 h11;have pe:=hM.below (al wr (eC i))
         go_wp2_with (at_lookup;go_loud(refine wpList_lookup_own_ok_int _ rfl _ _ 218 rfl 9 3 .i64 vU underlying218 underlying3 (zi _) w.heap.size cnt D rfl pe _ _ rfl oy.out ?_))
         intro cc hat hwf;have o2:=Own.below o (al wr (eC i));have E2:=dD E (eC i);have zm:=hid hat;clear hat hwf o hM E p0 p1 p2 p3 p4 p5 p6 p7 ix hI;go_wp2_with fail
         go_roundw
         case rel=>exact⟨k+1,by omega,by go_num,iz,o2,pe,E2⟩
         case measure=>simp[intOf];omega
      ·obtain rfl:k=n:=by omega
       have HF:=hid (show r=(lE code k k,0,0) by
        rw[<-HR.out,Sp (by have:=HN.out;omega) qR.out (fun j hj=>HS.out j (by have:=HN.out;omega)),HN.out];simp[lE])
       have bN:=DG code k k (Nat.le_refl _);go_wp2_with fail
       go_ret3
       exact iL.of HF.out rfl bN (Own.mono o (Nat.le_succ _)) E
    ·obtain⟨q,rfl⟩: ∃q,m=q+1:=⟨m-1,by omega⟩
     obtain rfl:z=(q:Int):=by omega
     clear hz1 hm0;obtain⟨i,hi⟩: ∃i,code[q]? =some i:=⟨_,amK (by have:=HN.out;omega)⟩;obtain⟨p0,p1,p2,p3,p4,p5,p6,p7⟩:=hI.cells hi;have ix:=hI.idx q (by have:=HN.out;omega);rw[HN.out]at ix
     have ya:=N7 (i:=i) (by
      obtain⟨hlt,he⟩:=ano.1 hi;rw[<-he];exact qR.out q hlt)
     have oy:=hid (RM i.label ya)
     by_cases h12:i.op=12
     ·have z12:(i.op==12)=true:=by simpa using h12
      have uG:=hid (hD.out.put (World.ownsMap.isMap hM) hi h12 (show True from trivial));clear hi h12 ya
      go_wp2_with (at_mapUpdate;go_loud(refine wpList_mapUpdate_own _ rfl _ _ _ 218 rfl 9 3 vU underlying218 _ w.heap.size cnt D rfl hM (by unfold maxLen;omega) _ _ _ rfl rfl oy.out _ [] (plainElem_int underlying3 (WalkArith.wf_i64 (by omega))) ?_))
      intro w2 vt IW;have vt:oJ w2 w.heap.size (cnt+1) _:=vt
      have o2:=Own.kept o IW (by
       rcases FW.out with h|h
       ·exact .inl h
       ·right;intro e;exact h (aoX e).symm)
      have E2:Below w.heap.size w w2:=E.grown IW E.size (by intro k hk;cases hk;exact Nat.le_refl _);clear hM IW o E p0 p1 p2 p3 p4 p5 p6 p7 ix hI;go_wp2_with fail
      go_roundw
      case rel=>exact⟨q,cnt+1,_,_,by omega,rfl,by omega,by omega,by omega,uG,o2,vt,E2⟩
      case measure=>simp[intOf]
     ·have z12:(i.op==12)=false:=by simpa using h12
      have uG:=hid (hD.out.skip hi h12);clear hi h12 ya;go_wp2_with fail
      go_roundw
      case rel=>exact⟨q,cnt,D,_,by omega,rfl,by omega,hcn,by omega,uG,o,hM,E⟩
      case measure=>simp[intOf]
theorem agA(code:List Ins)(a:Option Addr)(c:Nat)(hc:code.length<=c)(hL: ∀i∈code,i.label.length<=9223372036854775807)(w:World)(hI:Is w a code):
 Calls prog 140 #[.slice a code.length c] w (iL (gG code) w):=by
 by_cases hl:256<code.length
 ·exact agB code a c hl w
 ·exact agC code a c (by omega) hc hL w hI
end Go.Proofs.YtkbbgjloifmmbaaGreatDoor
