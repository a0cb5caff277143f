/- What ReadPiecesP leans on, part 31. -/
import Derived.Test.YtkbbgjloifmmbaaGreatDoorRp30
import Derived.Maps.OwnOps
import Derived.StringKeys
set_option linter.unusedVariables false
set_option maxRecDepth 100000
set_option maxHeartbeats 12800000
namespace Go.Proofs.YtkbbgjloifmmbaaGreatDoor
open Go.RowKit Go.Sort
theorem showC_nat(lo:Nat)(c:UInt8):showC lo c=(decide (lo<=c.toNat)&&(decide (c.toNat<=126)&&decide (c.toNat≠34))):=rfl
theorem fileShown(lo:Nat)(h0:1<=lo)(h1:lo<=34)(l:Tx)(hl:l.length<=9223372036854775807)(w:World):Calls Tryz.prog 67 #[.string (tx l),.int .u8 lo] w fun e w'=>e= .returned (.bool (showB lo l))/\w=w':=by
 obtain⟨n,hn⟩: ∃n,(tx l).size=n:=⟨_,rfl⟩;have hln:l.length=n:=by rw[<-hn,tx_size]
 have HN:=hid hln;rw[hln]at hl;clear hln;go_enter Tryz.func67,Tryz.ntmps67;go_wp2_with fail
 go_loop [5] (fun i=> ∃k:Nat,k<=n/\i= .int .i64 k/\Hid (∀(i:Nat) (x:UInt8),i<k->l[i]? =some x->showC lo x=true)) (fun i=>n-(intOf i).toNat)
 case atStart=>exact⟨0,by omega,rfl,fun i x hi=>absurd hi (Nat.not_lt_zero i)⟩
 case round=>
  obtain⟨k,hk,rfl,HM⟩:=hrel
  by_cases hlt:k<n
  ·obtain⟨x,hx⟩: ∃x,l[k]? =some x:=⟨_,List.getElem?_eq_getElem (by rw[HN.out];exact hlt)⟩
   have ix:=run_ix l k x hx;have hlt':x.toNat<256:=x.toNat_lt;obtain⟨m,hm⟩: ∃m,x.toNat=m:=⟨_,rfl⟩;have HC:=hid (show showC lo x=(decide (lo<=m)&&(decide (m<=126)&&decide (m≠34))) by rw[showC_nat,hm]);rw[hm]at ix hlt';have HF:=hid (fun h=>showB_step (lo:=lo) (l:=l) (k:=k) (c:=x) hx h)
   have HM2:showC lo x=true->Hid (∀(i:Nat) (y:UInt8),i<k+1->l[i]? =some y->showC lo y=true):=fun hx' i y hi hy=>by
    rcases Nat.lt_succ_iff_lt_or_eq.1 hi with h|h
    ·exact HM.out i y h hy
    ·subst h;rw[hx]at hy;cases hy;exact hx'
   have HM2:=hid HM2;clear hm hx HM;have hp:m<lo\/(lo<=m/\m=34)\/(lo<=m/\m<=126/\m≠34)\/126<m:=by omega
   rcases hp with h|⟨h,h'⟩|⟨h,h',h''⟩|h
   all_goals
    (try(have z34:((m:Int)==34)=false:=by simp;omega))
    (try subst h')
    go_wp2_with fail
    first
    |(go_round
      case rel=>exact⟨k+1,by omega,by go_num,HM2.out (by rw[HC.out];simp<;>omega)⟩
      case measure=>simp[intOf];omega)
    |(go_ret
      exact⟨ret_bool ((fun h=>h.symm) (HF.out (by rw[HC.out];simp<;>omega))),rfl⟩)
  ·have HS:=hid (showB_done (lo:=lo) (l:=l) (fun i x hi=>HM.out i x (by
    have h1:=(List.getElem?_eq_some_iff.1 hi).1;have:=HN.out
    omega) hi))
   go_wp2_with fail;go_ret;exact⟨ret_bool HS.out.symm,rfl⟩
end Go.Proofs.YtkbbgjloifmmbaaGreatDoor
namespace Go.Proofs.YtkbbgjloifmmbaaGreatDoor
theorem dropWhile_len{α:Type}(p:α->Bool): ∀x:List α,(x.dropWhile p).length<=x.length
 |[]=>by simp
 | a::r=>by
   rw[List.dropWhile_cons];split
   ·have:=dropWhile_len p r;simp;omega
   ·exact Nat.le_refl _
theorem dropWhile_self{α:Type}(p:α->Bool)(x:List α):x.dropWhile p=x<-> ∀a,x.head?=some a->p a=false:=by
 cases x with
 |nil=>simp
 | cons a r=>
   rw[List.dropWhile_cons];cases h:p a
   ·simp[h]
   ·simp only[if_true,List.head?_cons,Option.some.injEq]
    constructor
    ·intro e
     have h1:=dropWhile_len p r;have h2:=congrArg List.length e;simp at h2;omega
    ·intro e
     have:=e a rfl;rw[h]at this;cases this
theorem trimB_self(l:Tx):Lib.trimB l 32=l<->flushB l=true:=by
 have hR:Lib.trimRightB l 32=l<-> ∀a,l.getLast?=some a->(a==32)=false:=by
  rw[<-List.head?_reverse,<-dropWhile_self];unfold Lib.trimRightB
  constructor
  ·intro e
   have:=congrArg List.reverse e
   rwa[List.reverse_reverse]at this
  ·intro e
   rw[e,List.reverse_reverse]
 have hL: ∀r:Tx,Lib.trimLeftB r 32=r<-> ∀a,r.head?=some a->(a==32)=false:=fun r=>by
  rw[<-dropWhile_self];rfl
 have hlenR:(Lib.trimRightB l 32).length<=l.length:=by
  unfold Lib.trimRightB;have:=dropWhile_len (· ==(32:UInt8)) l.reverse;rw[List.length_reverse]at this⊢;exact this
 have hsuf:Lib.trimB l 32=l->Lib.trimRightB l 32=l:=by
  intro e;rw[hR,<-List.head?_reverse,<-dropWhile_self];have h1:=congrArg List.length e;unfold Lib.trimB Lib.trimLeftB at h1;have h2:=dropWhile_len (· ==(32:UInt8)) (Lib.trimRightB l 32)
  have h3:(l.reverse.dropWhile (· ==(32:UInt8))).length=l.reverse.length:=by
   have:(Lib.trimRightB l 32).length=(l.reverse.dropWhile (· ==(32:UInt8))).length:=by unfold Lib.trimRightB;rw[List.length_reverse]
   have h4:=dropWhile_len (· ==(32:UInt8)) l.reverse;rw[List.length_reverse]at h4⊢;omega
  exact(List.dropWhile_suffix _).eq_of_length h3
 have hfl:flushB l=true<->(∀a,l.head?=some a->(a==32)=false)/\(∀a,l.getLast?=some a->(a==32)=false):=by
  unfold flushB;cases l with
  |nil=>simp
  | cons c r=>
    have:(c::r).getLast?=some ((c::r).getLast (by simp)):=List.getLast?_eq_some_getLast (by simp);rw[this];simp
 rw[hfl]
 constructor
 ·intro e
  have h1:=hsuf e;have h2:Lib.trimLeftB l 32=l:=by unfold Lib.trimB at e;rwa[h1]at e
  exact⟨(hL l).1 h2,hR.1 h1⟩
 ·rintro⟨h1,h2⟩
  unfold Lib.trimB;rw[hR.2 h2];exact(hL l).2 h1
end Go.Proofs.YtkbbgjloifmmbaaGreatDoor
namespace Go.Proofs.YtkbbgjloifmmbaaGreatDoor
open Go.RowKit Go.Sort
theorem trim_blank(l:Tx)(hl:l.length<=9223372036854775807)(w:World):Calls Tryz.prog 68 #[.string (tx l),.string ⟨#[32]⟩] w (Ret w (.string (tx (Lib.trimB l 32)))):=by
 refine(Any.strings_Trim_laid Tryz.l160 (by kernel_rfl) (tx l) ⟨#[32]⟩ w (by rw[tx_size];exact hl) (by decide) (ascii_of_all (by decide))).mono fun e w' hh=>⟨?_,hh.2⟩
 rw[hh.1,tx_data,show(⟨#[32]⟩:ByteArray).data.toList=[32]from rfl,Lib.trimS_one];rfl
end Go.Proofs.YtkbbgjloifmmbaaGreatDoor
namespace Go.Proofs.YtkbbgjloifmmbaaGreatDoor
theorem codedE_n{t:Tst}(h:t.code.length<1\/16<t.code.length):codedE t=2:=by unfold codedE;rw[if_pos h]
theorem codedE_long{t:Tst}{k:Nat}{x:Cd}(h: ¬(t.code.length<1\/16<t.code.length))(hx:t.code[k]? =some x)(hl:256<x.l.length):codedE t=2:=by
 unfold codedE;rw[if_neg h,if_pos];rw[List.any_eq_true];exact⟨x,List.mem_of_getElem? hx,by simpa using hl⟩
theorem codedE_rows{t:Tst}(h: ¬(t.code.length<1\/16<t.code.length))(hl: ∀(k:Nat) (x:Cd),t.code[k]? =some x->x.l.length<=256):codedE t=rowsE t.arch t.code:=by
 unfold codedE;rw[if_neg h,if_neg];rw[List.any_eq_true];rintro⟨x,hx,h2⟩;obtain⟨k,hk⟩:=List.mem_iff_getElem?.1 hx;have:=hl k x hk;simp at h2;omega
theorem rowsE_drop{arch:Int}{l:List Cd}{k:Nat}{x:Cd}(hk:l[k]? =some x):rowsE arch (l.drop k)=if rowE arch x.l=0 then rowsE arch (l.drop (k+1))else rowE arch x.l:=by
 obtain⟨hlt,rfl⟩:=List.getElem?_eq_some_iff.1 hk;rw[List.drop_eq_getElem_cons hlt,rowsE]
theorem rowsE_end{arch:Int}{l:List Cd}:rowsE arch (l.drop l.length)=0:=by rw[List.drop_length];rfl
theorem rowE_bad{arch:Int}{l:List Ins}{k:Nat}{i:Ins}(hk:l[k]? =some i)(h:insA arch i=false):rowE arch l=91:=by
 unfold rowE;rw[if_neg];intro h2;rw[List.all_eq_true]at h2;rw[h2 i (List.mem_of_getElem? hk)]at h;cases h
theorem rowE_all{arch:Int}{l:List Ins}(h: ∀(k:Nat) (i:Ins),l[k]? =some i->insA arch i=true):rowE arch l=if arch=2 then(linksV l).2.1 else 0:=by
 unfold rowE;rw[if_pos];rw[List.all_eq_true];intro i hi;obtain⟨k,hk⟩:=List.mem_iff_getElem?.1 hi;exact h k i hk
end Go.Proofs.YtkbbgjloifmmbaaGreatDoor
namespace Go.Proofs.YtkbbgjloifmmbaaGreatDoor
open Go.RowKit Go.Maps Go.WideMaps
attribute [local go_sem high] eqI neqI
def RetL(r:List Int × Int × Int)(w:World)(e:Ending)(w':World):Prop:=
 ∃a c,e= .returned (.tuple #[.slice a r.1.length c,.int .i64 r.2.1,.int .i64 r.2.2])/\OwnI w' w.heap.size a r.1.length c r.1/\Below w.heap.size w w'
theorem RetL.nil{r:List Int × Int × Int}{x y:Int}{w w':World}{e:Ending}(hr:r=([],x,y))(he:e= .returned (.tuple #[.slice none 0 0,.int .i64 x,.int .i64 y]))(hb:Below w.heap.size w w'):RetL r w e w':=by
 subst hr he;exact⟨none,0,rfl,Own.nil _ _ _ _,hb⟩
theorem RetL.of{r:List Int × Int × Int}{l:List Int}{x y:Int}{n c:Nat}{a:Option Addr}{w w':World}{e:Ending}(hr:r=(l,x,y))(he:e= .returned (.tuple #[.slice a n c,.int .i64 x,.int .i64 y]))(hn:l.length=n)(ho:OwnI w' w.heap.size a n c l)(hb:Below w.heap.size w w'):RetL r w e w':=by
 subst hr he hn;exact⟨a,c,rfl,ho,hb⟩
theorem lawS:Keyed Tryz.prog 9:=string_keyed Tryz.underlying9
theorem zeroS(w:World):(zeroValue 3).run Tryz.prog w= .ok (.int .i64 0) w:=by kernel_rfl
theorem keyT(l:Tx)(h:l.length<=1000000):keyOf Tryz.prog 9 (.string (tx l))=some (.string l):=by
 rw[keyOf_string_mk Tryz.underlying9 (by rw[tx_size];unfold maxLen;omega),tx_data]
def Labs(w:World)(b n:Nat)(D:DataW Unit):Prop:=w.ownsMap Tryz.prog 9 (plainElem (H:=Unit) Tryz.prog 3) b n D
theorem Labs.below{w w':World}{b n:Nat}{D:DataW Unit}(h:Labs w b n D)(hb:Below w.heap.size w w'):Labs w' b n D:=
 World.ownsMap.kept h ⟨hb.os,hb.tape,hb.output,hb.size,fun k hk _=>hb.block k hk⟩ (row:=none) (by simp)
theorem Labs.step{w w':World}{b n:Nat}{D:DataW Unit}{sa a':Option Addr}(h:Labs w b n D)(hs:Step w w' sa a')(hne:sa=none\/b≠bk sa):Labs w' b n D:=by
 refine World.ownsMap.kept h hs.grown ?_;cases sa with
 |none=>simp
 |some x=> rcases hne with h1|h1
           ·cases h1
           ·simpa[bk]using h1
theorem checkI_label{i:Ins}(h:checkI i=true):i.label.length<=1000000:=by
 obtain⟨ho,hw, -⟩:=checkI_spec h
 by_cases h1:i.op=11\/i.op=12
 ·unfold okI at ho
  rw[if_neg (by omega),if_pos h1]at ho;have:=(nameB_cl ho).2;omega
 ·have:i.label=[]:=by
   have:=congrArg Ins.label hw;rw[this];unfold wantI
   split<;>(try rfl)
   split<;>(try rfl)
   split<;>(try rfl)
   split<;>(try rfl)
   split<;>(try rfl)
   split
   ·omega
   split
   ·omega
   split<;>rfl
  rw[this];simp
theorem progLinks_long(code:List Ins)(a:Option Addr)(c:Nat)(hl:256<code.length)(w:World):Calls Tryz.prog 140 #[.slice a code.length c] w (RetL (linksV code) w):=by
 obtain⟨r,hr⟩: ∃r,linksV code=r:=⟨_,rfl⟩;rw[hr];have HK:=hid (show r=([],2,0) by rw[<-hr,linksV_full hl]);have hz:decide (256<(code.length:Int))=true:=by simp;omega
 generalize code.length=n at*;clear hr hl;go_enter Tryz.func140,Tryz.ntmps140;go_wp2_with fail
 go_ret3
 exact RetL.nil HK.out rfl (Below.refl _ _)
def fill1(n k:Nat):List Int:=List.replicate k (-1)++List.replicate (n-k) 0
theorem fill1_len(n k:Nat)(h:k<=n):(fill1 n k).length=n:=by simp[fill1];omega
theorem fill1_set(n k:Nat)(h:k<n):(fill1 n k).set k (-1)=fill1 n (k+1):=by
 unfold fill1;rw[List.set_append_right _ _ (by simp)];simp only[List.length_replicate,Nat.sub_self];rw[show n-k=(n-(k+1))+1 by omega,List.replicate_succ,List.set_cons_zero,List.replicate_succ',List.append_assoc];rfl
def fill2(code:List Ins)(n k:Nat):List Int:=outsP code k++List.replicate (n-k) (-1)
theorem fill2_len(code:List Ins)(n k:Nat)(h:k<=n):(fill2 code n k).length=n:=by simp[fill2,outsP_length];omega
theorem fill2_set(code:List Ins)(n k:Nat)(h:k<n):(fill2 code n k).set k ((stepP code k).getD (-1))=fill2 code n (k+1):=by
 unfold fill2;rw[List.set_append_right _ _ (by rw[outsP_length];omega),outsP_length,Nat.sub_self,show n-k=(n-(k+1))+1 by omega,List.replicate_succ,List.set_cons_zero,outsP_succ,List.append_assoc];rfl
theorem fill2_skip(code:List Ins)(n k:Nat)(h:k<n)(hs:stepP code k=some (-1)):fill2 code n k=fill2 code n (k+1):=by
 unfold fill2;rw[show n-k=(n-(k+1))+1 by omega,List.replicate_succ,outsP_succ,hs,List.append_assoc];rfl
theorem fill_start(code:List Ins)(n:Nat):fill1 n n=fill2 code n 0:=by simp[fill1,fill2,outsP]
theorem progLinks_short(code:List Ins)(a:Option Addr)(c:Nat)(hl:code.length<=256)(hc:code.length<=c)(hL: ∀i∈code,i.label.length<=9223372036854775807)(w:World)(hI:Is w a code):
 Calls Tryz.prog 140 #[.slice a code.length c] w (RetL (linksV code) w):=by
 obtain⟨r,hr⟩: ∃r,linksV code=r:=⟨_,rfl⟩;rw[hr];have HR:=hid hr;obtain⟨n,hn⟩: ∃n,code.length=n:=⟨_,rfl⟩;have HN:=hid hn;have HL:=hid hL;have hz:decide (256<(n:Int))=false:=by simp;omega
 have hmm:= @run_makeMap Tryz.prog;rw[hn]at hl hc⊢;have hM:Labs (w.alloc (.map #[] 0)) w.heap.size 0 (.map []):=World.ownsMap_made _ _ _ _;have E0:=al w (.map #[] 0);clear hr hL hn;go_enter Tryz.func140,Tryz.ntmps140
 go_wp2_with (at_make;go_loud(refine wpList_mk isl _ _ rfl rfl n rfl rfl rfl rfl (by omega) (by unfold maxLen;omega) (Below.refl (w.heap.size+1) (w.alloc (.map #[] 0))) (by simp) ?_))
 intro ao w1 o1 st1 B1;rw[madeI]at o1;have E1:Below (w.alloc (.map #[] 0)).heap.size (w.alloc (.map #[] 0)) w1:=by simpa using B1
 have hM:=hM.below E1;have E:=ext_trans E0 E1;have o:OwnI w1 (w.heap.size+1) ao n n (fill1 n 0):=by rw[show fill1 n 0=List.replicate n 0 by simp[fill1]];exact o1
 have hap:ao=none\/w.heap.size≠bk ao:=by
  cases ao with
  |none=>exact .inl rfl
  |some x=>have:=(Own.lt o (by simp)).1;exact .inr (by omega)
 have HAP:=hid hap;clear E0 E1 B1 o1 st1 hap;have HIs:=hid hI;clear hI;go_wp2_with fail
 go_loopw [23] (fun i wr=> ∃k:Nat,k<=n/\i= .int .i64 k/\Hid (∀j (hj:j<code.length),j<k->checkI code[j]=true)/\OwnI wr (w.heap.size+1) ao n n (fill1 n k)/\Labs wr w.heap.size 0 (.map [])/\Below w.heap.size w wr) (fun i _=>n-(intOf i).toNat)
 case atStart=>exact⟨0,by omega,rfl,hid (fun j hj h'=>absurd h' (Nat.not_lt_zero j)),o,hM,E⟩
 case round=>
  clear o hM E;obtain⟨k,hk,rfl,HC,o,hM,E⟩:=hrel;have hI:=HIs.out.below E
  by_cases hlt:k<n
  ·obtain⟨i,hi⟩: ∃i,code[k]? =some i:=⟨_,List.getElem?_eq_getElem (by have:=HN.out;omega)⟩
   have hik:code[k]'(by have:=HN.out;omega)=i:=Option.some.inj ((List.getElem?_eq_getElem (by have:=HN.out;omega)).symm.trans hi);obtain⟨p0,p1,p2,p3,p4,p5,p6,p7⟩:=hI.cells hi;have ix:=hI.idx k (by have:=HN.out;omega);rw[HN.out]at ix;have CK:=hid (fun(w:World)=>progCheck i (HL.out i (by rw[<-hik];exact List.getElem_mem _)) w);have HI:=hid hik;clear hi hik;cases hck:checkI i
   ·have hE:=errI_no hck
    rw[hE]at CK
    have HF:=hid (show r=([],91,(k:Int)) by
     rw[<-HR.out];exact linksV_bad (by have:=HN.out;omega) (by have:=HN.out;omega) (by rw[HI.out];exact hck) HC.out)
    clear hE hck;go_wp2_with fail;refine(CK.out _).mono ?_;rintro e w2 ⟨rfl,E2⟩;have E:=E.trans ((ext_trans (al wr _) E2).mono E.size);clear p0 p1 p2 p3 p4 p5 p6 p7 ix o hM hI E2;go_wp2_with fail
    go_ret3
    exact RetL.nil HF.out rfl E
   ·have hE:=errI_yes hck
    rw[hE]at CK
    have HC2:=hid (show ∀j (hj:j<code.length),j<k+1->checkI code[j]=true from fun j hj hjk=>by
     by_cases hh:j=k
     ·subst hh;rw[HI.out];exact hck
     ·exact HC.out j hj (by omega))
    clear hE hck;go_wp2_with fail;refine(CK.out _).mono ?_;rintro e w2 ⟨rfl,E2⟩;have E3:=ext_trans (al wr _) E2;have E:=E.trans (E3.mono E.size);have o:=Own.below o E3;have hM:=hM.below E3;have ij:=(o.ints.1).idx isl k (by rw[fill1_len n k hk];exact hlt);rw[fill1_len n k hk]at ij;have fj:=Own.frozen o (Own.some o (by omega)) k;obtain⟨cv,hcv⟩: ∃cv,w2.cell? ⟨bk ao,fo ao+k,none⟩=some cv:=⟨_,(o.ints.1).cell k (by rw[fill1_len n k hk];exact hlt)⟩;obtain⟨oj1,oj2⟩:=Own.set o (Own.some o (by omega)) k (.int .i64 (-1))
    have o2:OwnI (w2.setCell ⟨bk ao,fo ao+k,none⟩ (.int .i64 (-1))) (w.heap.size+1) ao n n (fill1 n (k+1)):=by
     rw[<-fill1_set n k hlt];simpa only[OwnI,ints,List.map_set]using oj1
    have hM2:=hM.step oj2 HAP.out;have E4:Below w.heap.size w (w2.setCell ⟨bk ao,fo ao+k,none⟩ (.int .i64 (-1))):=bel_set E (by have:=(Own.lt o (Own.some o (by omega))).1;dsimp only;omega) _;clear p0 p1 p2 p3 p4 p5 p6 p7 ix E2 E3 oj1 oj2 hI;go_wp2_with fail
    go_roundw
    case rel=>exact⟨k+1,by omega,by go_num,HC2,o2,hM2,E4⟩
    case measure=>simp[intOf];omega
  ·obtain rfl:k=n:=by omega
   have HCA:=hid (show ∀j (hj:j<code.length),checkI code[j]=true from fun j hj=>HC.out j hj (by have:=HN.out;omega));have hD:=hid (LabD.nil code k (by have:=HN.out;omega));clear HC hI hlt hk;rw[fill_start code k]at o;generalize k=n at*;go_wp2_with fail
   go_loopw [9] (fun i wr=> ∃(m cnt:Nat) (D:DataW Unit) (z:Int),m<=n/\i= .int .i64 z/\z=(m:Int)-1/\cnt<=n/\cnt+m<=n/\Hid (LabD code m D)/\OwnI wr (w.heap.size+1) ao n n (fill2 code n 0)/\Labs wr w.heap.size cnt D/\Below w.heap.size w wr) (fun i _=>(intOf i+1).toNat)
   case atStart=>exact⟨n,0,.map [],(n:Int)-1,by omega,rfl,rfl,by omega,by omega,hD,o,hM,E⟩
   case round=>
    clear o hM E hD;obtain⟨m,cnt,D,z,hm,rfl,hz1,hcn,hcm,hD,o,hM,E⟩:=hrel;have hI:=HIs.out.below E
    by_cases hm0:m=0
    ·subst hm0
     obtain rfl:z= -1:=by omega
     clear hI hz1 hcm;go_wp2_with fail
     go_loopw [58] (fun i wr=> ∃k:Nat,k<=n/\i= .int .i64 k/\Hid (∀j,j<k->stepP code j≠none)/\OwnI wr (w.heap.size+1) ao n n (fill2 code n k)/\Labs wr w.heap.size cnt D/\Below w.heap.size w wr) (fun i _=>n-(intOf i).toNat)
     case atStart=>exact⟨0,by omega,rfl,hid (fun j h'=>absurd h' (Nat.not_lt_zero j)),o,hM,E⟩
     case round=>
      clear o hM E;obtain⟨k,hk,rfl,HS,o,hM,E⟩:=hrel;have hI:=HIs.out.below E
      by_cases hlt:k<n
      ·obtain⟨i,hi⟩: ∃i,code[k]? =some i:=⟨_,List.getElem?_eq_getElem (by have:=HN.out;omega)⟩
       obtain⟨p0,p1,p2,p3,p4,p5,p6,p7⟩:=hI.cells hi;have ix:=hI.idx k (by have:=HN.out;omega);rw[HN.out]at ix
       have hlab:=checkI_label (i:=i) (by
        obtain⟨hlt,he⟩:=List.getElem?_eq_some_iff.1 hi;rw[<-he];exact HCA.out k hlt)
       have HKY:=hid (keyT i.label hlab)
       have hst:stepP code k=if i.op=12 then(if code.findIdx? (isLab i.label)=some k then some (-1)else none)
        else if i.op=11 then(match code.findIdx? (isLab i.label)with
         |none=>none
         |some at'=>if((code.drop (k+1)).findIdx? (isLab i.label)).isSome then some (at':Int)else none)
        else some (-1):=by unfold stepP;rw[hi];rfl
       have HI:=hid hi;have HLD:=hid (hD.out i.label);rw[List.drop_zero]at HLD;clear hi hlab
       by_cases h12:i.op=12
       ·have hself:isLab i.label i=true:=by rw[isLab_iff];exact⟨h12,rfl⟩
        have z12:(i.op==12)=true:=by simpa using h12
        have z11:(i.op==11)=false:=by rw[h12];rfl
        obtain⟨f,hf⟩: ∃f,code.findIdx? (isLab i.label)=some f:=by
         cases hf:code.findIdx? (isLab i.label)with
         |some f=>exact⟨f,rfl⟩
         | none=>
           rw[List.findIdx?_eq_none_iff]at hf;obtain⟨hlt,he⟩:=List.getElem?_eq_some_iff.1 HI.out;have:=hf code[k] (List.getElem_mem _);rw[he,hself]at this;cases this
        obtain⟨hh1,hh2⟩:=HLD.out.1 f hf;rw[Nat.zero_add]at hh2;have HH1:=hid hh1;have HH2:=hid hh2;rw[if_pos h12,hf]at hst;have hM1:=hM.below (al wr (mkI i))
        by_cases hfk:f=k
        ·have zk:((f:Int) != (k:Int))=false:=by simp;omega
         rw[if_pos (by rw[hfk])]at hst
         have HS2:=hid (show ∀j,j<k+1->stepP code j≠none from fun j hj=>by
          rcases Nat.lt_succ_iff_lt_or_eq.1 hj with h|h
          ·exact HS.out j h
          ·subst h;rw[hst];simp)
         rw[fill2_skip code n k hlt hst]at o;clear hst h12 hself hf hh1 hh2 hfk
         go_wp2_with (at_lookup;go_loud(refine wpList_lookup_own_ok_int _ rfl _ _ 218 rfl 9 3 .i64 lawS Tryz.underlying218 Tryz.underlying3 (zeroS _) w.heap.size cnt D rfl hM1 _ _ rfl HKY.out ?_))
         intro cc hat hwf;rw[HH2.out]at hat;obtain rfl:(f:Int)=cc:=by cases hat;rfl
         rw[HH1.out];have o2:=Own.below o (al wr (mkI i));have E2:=bel_alloc E (mkI i);clear hat hwf o hM E p0 p1 p2 p3 p4 p5 p6 p7 ix hI;go_wp2_with fail
         go_roundw
         case rel=>exact⟨k+1,by omega,by go_num,HS2,o2,hM1,E2⟩
         case measure=>simp[intOf];omega
        ·have zk:((f:Int) != (k:Int))=true:=by simp;omega
         rw[if_neg (fun e=>hfk (Option.some.inj e))]at hst
         have HF:=hid (show r=([],93,(k:Int)) by
          rw[<-HR.out];exact linksV_label (by have:=HN.out;omega) HCA.out (by have:=HN.out;omega) hst HS.out)
         clear hst h12 hself hf hh1 hh2 hfk
         go_wp2_with (at_lookup;go_loud(refine wpList_lookup_own_ok_int _ rfl _ _ 218 rfl 9 3 .i64 lawS Tryz.underlying218 Tryz.underlying3 (zeroS _) w.heap.size cnt D rfl hM1 _ _ rfl HKY.out ?_))
         intro cc hat hwf;rw[HH2.out]at hat;obtain rfl:(f:Int)=cc:=by cases hat;rfl
         rw[HH1.out];have E2:=bel_alloc E (mkI i);clear hat hwf o hM E p0 p1 p2 p3 p4 p5 p6 p7 ix hI;go_wp2_with fail
         go_ret3
         exact RetL.nil HF.out rfl E2
       ·by_cases h11:i.op=11
        ·have z12:(i.op==12)=false:=by simpa using h12
         have z11:(i.op==11)=true:=by simpa using h11
         rw[if_neg h12,if_pos h11]at hst;have hM1:=hM.below (al wr (mkI i));cases hf:code.findIdx? (isLab i.label)with
         | none=>
           have HH1:=hid (HLD.out.2 hf);rw[hf]at hst
           have HF:=hid (show r=([],93,(k:Int)) by
            rw[<-HR.out];exact linksV_label (by have:=HN.out;omega) HCA.out (by have:=HN.out;omega) hst HS.out)
           clear hst h12 h11 hf
           go_wp2_with (at_lookup;go_loud(refine wpList_lookup_own_ok_int _ rfl _ _ 218 rfl 9 3 .i64 lawS Tryz.underlying218 Tryz.underlying3 (zeroS _) w.heap.size cnt D rfl hM1 _ _ rfl HKY.out ?_))
           intro cc hat hwf;rw[HH1.out];have HAT:=hid hat;have E2:=bel_alloc E (mkI i);clear hat hwf o hM E p0 p1 p2 p3 p4 p5 p6 p7 ix hI;go_wp2_with fail
           go_ret3
           exact RetL.nil HF.out rfl E2
         | some f=>
           obtain⟨hh1,hh2⟩:=HLD.out.1 f hf;rw[Nat.zero_add]at hh2;have HH1:=hid hh1;have HH2:=hid hh2;rw[hf]at hst;simp only at hst;have bx:=BxI.new wr i;have hdr:=(hI.below (al wr (mkI i))).drop (k+1) (c=k+1) (fun e=>by have:=HN.out;left;omega);have CF:=progContains i wr.heap.size (code.drop (k+1)) (cutA a (c=k+1) ((k+1)*8)) (c-(k+1)) (wr.alloc (mkI i)) hdr bx;have sl: ∀w',(Instr.sliceAt 75 (.slice a n c) (some (.int .i64 ((k:Int)+1))) none none).run Tryz.prog w'= .ok (.slice (cutA a (c=k+1) ((k+1)*8)) (n-(k+1)) (c-(k+1))) w':=run_cut_from inl a n c (k+1) (by omega) .i64;rw[List.length_drop,HN.out]at CF;generalize cutA a (c=k+1) ((k+1)*8)=ac at*;have HCF:=hid CF;clear hh1 hh2 hf CF hdr;cases hlater:((code.drop (k+1)).findIdx? (isLab i.label)).isSome
           ·rw[hlater]at hst HCF
            have HF:=hid (show r=([],93,(k:Int)) by
             rw[<-HR.out];exact linksV_label (by have:=HN.out;omega) HCA.out (by have:=HN.out;omega) hst HS.out)
            clear hst h12 h11 hlater
            go_wp2_with (at_lookup;go_loud(refine wpList_lookup_own_ok_int _ rfl _ _ 218 rfl 9 3 .i64 lawS Tryz.underlying218 Tryz.underlying3 (zeroS _) w.heap.size cnt D rfl hM1 _ _ rfl HKY.out ?_))
            intro cc hat hwf;rw[HH2.out]at hat;obtain rfl:(f:Int)=cc:=by cases hat;rfl
            rw[HH1.out];clear hat hwf p0 p1 p2 p3 p4 p5 p6 p7 ix hI;go_wp2_with fail;refine HCF.out.mono ?_;rintro e w2 ⟨rfl,E2⟩;have E2:=E.trans ((ext_trans (al wr _) E2).mono E.size);clear o hM E;go_wp2_with fail
            go_ret3
            exact RetL.nil HF.out rfl E2
           ·rw[hlater]at hst HCF
            have hst2:stepP code k=some (f:Int):=hst
            have HS2:=hid (show ∀j,j<k+1->stepP code j≠none from fun j hj=>by
             rcases Nat.lt_succ_iff_lt_or_eq.1 hj with h|h
             ·exact HS.out j h
             ·subst h;rw[hst2];simp)
            have HST:=hid hst2;clear hst hst2 h12 h11 hlater
            go_wp2_with (at_lookup;go_loud(refine wpList_lookup_own_ok_int _ rfl _ _ 218 rfl 9 3 .i64 lawS Tryz.underlying218 Tryz.underlying3 (zeroS _) w.heap.size cnt D rfl hM1 _ _ rfl HKY.out ?_))
            intro cc hat hwf;rw[HH2.out]at hat;obtain rfl:(f:Int)=cc:=by cases hat;rfl
            rw[HH1.out];clear hat hwf p0 p1 p2 p3 p4 p5 p6 p7 ix hI;go_wp2_with fail;refine HCF.out.mono ?_;rintro e w2 ⟨rfl,E2⟩;have E3:=ext_trans (al wr (mkI i)) E2;have bx2:=bx.below E2;obtain⟨q0,q1,q2,q3,q4,q5,q6,q7⟩:=bx2.cells;have hblt:=bx2.1;have E4:=E.trans (E3.mono E.size);have o:=Own.below o E3;have hM:=hM.below E3;have ij:=(o.ints.1).idx isl k (by rw[fill2_len code n k hk];exact hlt);rw[fill2_len code n k hk]at ij;have fj:=Own.frozen o (Own.some o (by omega)) k;obtain⟨cv,hcv⟩: ∃cv,w2.cell? ⟨bk ao,fo ao+k,none⟩=some cv:=⟨_,(o.ints.1).cell k (by rw[fill2_len code n k hk];exact hlt)⟩;obtain⟨oj1,oj2⟩:=Own.set o (Own.some o (by omega)) k (.int .i64 (f:Int))
            have o2:OwnI (w2.setCell ⟨bk ao,fo ao+k,none⟩ (.int .i64 (f:Int))) (w.heap.size+1) ao n n (fill2 code n (k+1)):=by
             have e:=fill2_set code n k hlt;rw[HST.out,Option.getD_some]at e;rw[<-e];simpa only[OwnI,ints,List.map_set]using oj1
            have hM2:=hM.step oj2 HAP.out;have E5:Below w.heap.size w (w2.setCell ⟨bk ao,fo ao+k,none⟩ (.int .i64 (f:Int))):=bel_set E4 (by have:=(Own.lt o (Own.some o (by omega))).1;dsimp only;omega) _;clear E2 E3 E4 E oj1 oj2 bx bx2 hM1;go_wp2_with fail
            go_roundw
            case rel=>exact⟨k+1,by omega,by go_num,HS2,o2,hM2,E5⟩
            case measure=>simp[intOf];omega
        ·have z12:(i.op==12)=false:=by simpa using h12
         have z11:(i.op==11)=false:=by simpa using h11
         rw[if_neg h12,if_neg h11]at hst
         have HS2:=hid (show ∀j,j<k+1->stepP code j≠none from fun j hj=>by
          rcases Nat.lt_succ_iff_lt_or_eq.1 hj with h|h
          ·exact HS.out j h
          ·subst h;rw[hst];simp)
         rw[fill2_skip code n k hlt hst]at o;clear hst h12 h11;have hM1:=hM.below (al wr (mkI i))
         go_wp2_with (at_lookup;go_loud(refine wpList_lookup_own_ok_int _ rfl _ _ 218 rfl 9 3 .i64 lawS Tryz.underlying218 Tryz.underlying3 (zeroS _) w.heap.size cnt D rfl hM1 _ _ rfl HKY.out ?_))
         intro cc hat hwf;have o2:=Own.below o (al wr (mkI i));have E2:=bel_alloc E (mkI i);have HAT:=hid hat;clear hat hwf o hM E p0 p1 p2 p3 p4 p5 p6 p7 ix hI;go_wp2_with fail
         go_roundw
         case rel=>exact⟨k+1,by omega,by go_num,HS2,o2,hM1,E2⟩
         case measure=>simp[intOf];omega
      ·obtain rfl:k=n:=by omega
       have HF:=hid (show r=(fill2 code k k,0,0) by
        rw[<-HR.out,linksV_ok (by have:=HN.out;omega) HCA.out (fun j hj=>HS.out j (by have:=HN.out;omega)),HN.out];simp[fill2])
       have hl2:=fill2_len code k k (Nat.le_refl _);go_wp2_with fail
       go_ret3
       exact RetL.of HF.out rfl hl2 (Own.mono o (Nat.le_succ _)) E
    ·obtain⟨q,rfl⟩: ∃q,m=q+1:=⟨m-1,by omega⟩
     obtain rfl:z=(q:Int):=by omega
     clear hz1 hm0;obtain⟨i,hi⟩: ∃i,code[q]? =some i:=⟨_,List.getElem?_eq_getElem (by have:=HN.out;omega)⟩;obtain⟨p0,p1,p2,p3,p4,p5,p6,p7⟩:=hI.cells hi;have ix:=hI.idx q (by have:=HN.out;omega);rw[HN.out]at ix
     have hlab:=checkI_label (i:=i) (by
      obtain⟨hlt,he⟩:=List.getElem?_eq_some_iff.1 hi;rw[<-he];exact HCA.out q hlt)
     have HKY:=hid (keyT i.label hlab)
     by_cases h12:i.op=12
     ·have z12:(i.op==12)=true:=by simpa using h12
      have HD2:=hid (hD.out.put (World.ownsMap.isMap hM) hi h12 (show True from trivial));clear hi h12 hlab
      go_wp2_with (at_mapUpdate;go_loud(refine wpList_mapUpdate_own _ rfl _ _ _ 218 rfl 9 3 lawS Tryz.underlying218 _ w.heap.size cnt D rfl hM (by unfold maxLen;omega) _ _ _ rfl rfl HKY.out _ [] (plainElem_int Tryz.underlying3 (WalkArith.wf_i64 (by omega))) ?_))
      intro w2 hM2 hg2;have hM2:Labs w2 w.heap.size (cnt+1) _:=hM2
      have o2:=Own.kept o hg2 (by
       rcases HAP.out with h|h
       ·exact .inl h
       ·right;intro e;exact h (Option.some.inj e).symm)
      have E2:Below w.heap.size w w2:=E.grown hg2 E.size (by intro k hk;cases hk;exact Nat.le_refl _);clear hM hg2 o E p0 p1 p2 p3 p4 p5 p6 p7 ix hI;go_wp2_with fail
      go_roundw
      case rel=>exact⟨q,cnt+1,_,_,by omega,rfl,by omega,by omega,by omega,HD2,o2,hM2,E2⟩
      case measure=>simp[intOf]
     ·have z12:(i.op==12)=false:=by simpa using h12
      have HD2:=hid (hD.out.skip hi h12);clear hi h12 hlab;go_wp2_with fail
      go_roundw
      case rel=>exact⟨q,cnt,D,_,by omega,rfl,by omega,hcn,by omega,HD2,o,hM,E⟩
      case measure=>simp[intOf]
theorem progLinks(code:List Ins)(a:Option Addr)(c:Nat)(hc:code.length<=c)(hL: ∀i∈code,i.label.length<=9223372036854775807)(w:World)(hI:Is w a code):
 Calls Tryz.prog 140 #[.slice a code.length c] w (RetL (linksV code) w):=by
 by_cases hl:256<code.length
 ·exact progLinks_long code a c hl w
 ·exact progLinks_short code a c (by omega) hc hL w hI
end Go.Proofs.YtkbbgjloifmmbaaGreatDoor
namespace Go.Proofs.YtkbbgjloifmmbaaGreatDoor
def FirstK(t:Tst)(k:Nat):Prop:= ∀(i:Nat) (x:Ini),i<k->t.init[i]? =some x->firstB t.arch t.code.length x=true
def ApartK(t:Tst)(k:Nat):Prop:= ∀(i j:Nat) (x y:Ini),i<j->j<k->t.init[i]? =some x->t.init[j]? =some y->keyI x≠keyI y
theorem begunE_long{t:Tst}(h:1024<t.init.length):begunE t=2:=by unfold begunE;rw[if_pos h]
theorem begunE_first{t:Tst}{k:Nat}{x:Ini}(h: ¬1024<t.init.length)(hx:t.init[k]? =some x)(hf:firstB t.arch t.code.length x=false):begunE t=130:=by
 unfold begunE;rw[if_neg h,if_neg];intro h2;rw[Bool.and_eq_true,List.all_eq_true]at h2;rw[h2.1 x (List.mem_of_getElem? hx)]at hf;cases hf
theorem begunE_twice{t:Tst}{j k:Nat}{x y:Ini}(h: ¬1024<t.init.length)(hjk:j<k)(hy:t.init[j]? =some y)(hx:t.init[k]? =some x)(he:keyI y=keyI x):begunE t=130:=by
 unfold begunE;rw[if_neg h,if_neg];intro h2;rw[Bool.and_eq_true,decide_eq_true_eq]at h2;have h3:=List.pairwise_iff_getElem.1 h2.2;obtain⟨h4,rfl⟩:=List.getElem?_eq_some_iff.1 hx;obtain⟨h5,rfl⟩:=List.getElem?_eq_some_iff.1 hy;refine h3 j k (by rw[List.length_map];exact h5) (by rw[List.length_map];exact h4) hjk ?_;rw[List.getElem_map,List.getElem_map];exact he
theorem begunE_ok{t:Tst}(h: ¬1024<t.init.length)(hf:FirstK t t.init.length)(ha:ApartK t t.init.length):begunE t=0:=by
 unfold begunE;rw[if_neg h,if_pos];rw[Bool.and_eq_true,decide_eq_true_eq,List.all_eq_true];refine⟨fun x hx=>?_,List.pairwise_iff_getElem.2 fun i j hi hj hij=>?_⟩
 ·obtain⟨k,hk⟩:=List.mem_iff_getElem?.1 hx
  exact hf k x (List.getElem?_eq_some_iff.1 hk).1 hk
 ·rw[List.length_map]at hj
  rw[List.getElem_map,List.getElem_map];exact ha i j _ _ hij hj (List.getElem?_eq_getElem _) (List.getElem?_eq_getElem _)
theorem FirstK.snoc{t:Tst}{k:Nat}{x:Ini}(h:FirstK t k)(hx:t.init[k]? =some x)(hf:firstB t.arch t.code.length x=true):FirstK t (k+1):=fun i y hi hy=>by
 rcases Nat.lt_succ_iff_lt_or_eq.1 hi with h1|h1
 ·exact h i y h1 hy
 ·subst h1;rw[hx]at hy;cases hy;exact hf
theorem ApartK.snoc{t:Tst}{k:Nat}{x:Ini}(h:ApartK t k)(hx:t.init[k]? =some x)(hf: ∀(i:Nat) (y:Ini),i<k->t.init[i]? =some y->keyI y≠keyI x):ApartK t (k+1):=fun i j y z hij hj hy hz=>by
 rcases Nat.lt_succ_iff_lt_or_eq.1 hj with h1|h1
 ·exact h i j y z hij h1 hy hz
 ·subst h1;rw[hx]at hz;cases hz;exact hf i y hij hy
end Go.Proofs.YtkbbgjloifmmbaaGreatDoor
namespace Go.Proofs.YtkbbgjloifmmbaaGreatDoor
open Go.RowKit Go.Sort
theorem txE{l:Tx}{b:Bool}(h:decide (l=[])=b):((tx l).toList==([]:List UInt8))=b/\(tx l).toList.isEmpty=b:=by
 rw[tx_toList,<-h];cases l<;>simp
theorem firstB_loc{arch:Int}{n:Nat}{x:Ini}(h:x.thread= -1):firstB arch n x=(nameB x.loc&&(decide (x.reg=0)&&(decide (x.vloc=[])&&n32B x.n))):=by unfold firstB;rw[if_pos h]
theorem firstB_out{arch:Int}{n:Nat}{x:Ini}(h:x.thread≠ -1)(h2:x.thread<0\/(n:Int)<=x.thread\/x.loc≠[]):firstB arch n x=false:=by unfold firstB;rw[if_neg h,if_pos h2]
theorem firstB_reg{arch:Int}{n:Nat}{x:Ini}(h:x.thread≠ -1)(h2: ¬(x.thread<0\/(n:Int)<=x.thread\/x.loc≠[]))(h3:if arch=2 then x.reg<1\/31<x.reg else x.reg<0\/14<x.reg):firstB arch n x=false:=by unfold firstB;rw[if_neg h,if_neg h2,if_pos h3]
theorem firstB_in{arch:Int}{n:Nat}{x:Ini}(h:x.thread≠ -1)(h2: ¬(x.thread<0\/(n:Int)<=x.thread\/x.loc≠[]))(h3: ¬(if arch=2 then x.reg<1\/31<x.reg else x.reg<0\/14<x.reg)):firstB arch n x=if x.vloc≠[]then nameB x.vloc&&decide (x.n=0)else n32B x.n:=by unfold firstB;rw[if_neg h,if_neg h2,if_neg h3]
theorem fileFirst(t:Tst)(x:Ini)(h1:x.loc.length<=9223372036854775807)(h2:x.vloc.length<=9223372036854775807)(hn:t.code.length<=1000)(w:World):
 Calls Tryz.prog 141 #[vT t,vIni x] w (Ret w (.bool (firstB t.arch t.code.length x))):=by
 have B:=bel_alloc (al w (mkT t)) (mkIni x);obtain⟨thread,reg,loc,vloc,n⟩:=x;simp only at h1 h2;obtain⟨b1,hb1⟩: ∃b,nameB loc=b:=⟨_,rfl⟩;obtain⟨b2,hb2⟩: ∃b,nameB vloc=b:=⟨_,rfl⟩;obtain⟨b3,hb3⟩: ∃b,n32B n=b:=⟨_,rfl⟩;obtain⟨b4,hb4⟩: ∃b,decide (loc=[])=b:=⟨_,rfl⟩;obtain⟨b5,hb5⟩: ∃b,decide (vloc=[])=b:=⟨_,rfl⟩;have NL:=hid (show ∀w,Calls Tryz.prog 225 #[.string (tx loc)] w fun e w'=>e= .returned (.bool b1)/\w=w' from fun w=>hb1▸fileNamed loc h1 w);have NV:=hid (show ∀w,Calls Tryz.prog 225 #[.string (tx vloc)] w fun e w'=>e= .returned (.bool b2)/\w=w' from fun w=>hb2▸fileNamed vloc h2 w);have NN:=hid (show ∀w,Calls Tryz.prog 226 #[.int .i64 n] w fun e w'=>e= .returned (.bool b3)/\w=w' from fun w=>hb3▸fileNumber n w);obtain⟨zl,zl'⟩:=txE hb4;obtain⟨zv,zv'⟩:=txE hb5;have HL:=hid hb4;have HV:=hid hb5;have HB:=hid (And.intro hb1 (And.intro hb2 hb3));obtain⟨N,hN⟩: ∃N,t.code.length=N:=⟨_,rfl⟩;obtain⟨ar,har⟩: ∃ar,t.arch=ar:=⟨_,rfl⟩;rw[hN]at hn;have HN:=hid hN;clear hb1 hb2 hb3 hb4 hb5 h1 h2
 by_cases ht:thread= -1
 ·subst ht
  have E:=hid (firstB_loc (arch:=t.arch) (n:=t.code.length) (x:=⟨-1,reg,loc,vloc,n⟩) rfl)
  by_cases hr:reg=0
  ·subst hr
   have E2:=hid (E.out.trans (show _=(b1&&(b5&&b3)) by simp only[HB.out.1,HB.out.2.2,HV.out,decide_true,Bool.true_and]));clear hN har;cases b1<;>cases b5<;>cases b3
   all_goals
    go_enter Tryz.func141,Tryz.ntmps141
    go_wp2_with (first|(go_at_call 225;refine(NL.out _).mono ?_;rintro e w1 ⟨rfl,rfl⟩)|(go_at_call 226;refine(NN.out _).mono ?_;rintro e w1 ⟨rfl,rfl⟩))
    go_ret;exact⟨ret_bool ((show _=_ from by first|rfl|simp).trans E2.out.symm),blN⟩
  ·have zr:(reg==0)=false:=by simpa using hr
   have E2:=hid (E.out.trans (show _=false by simp only[decide_eq_false hr,Bool.false_and,Bool.and_false]));clear hN har hr;cases b1
   all_goals
    go_enter Tryz.func141,Tryz.ntmps141
    go_wp2_with (first|(go_at_call 225;refine(NL.out _).mono ?_;rintro e w1 ⟨rfl,rfl⟩)|(go_at_call 226;refine(NN.out _).mono ?_;rintro e w1 ⟨rfl,rfl⟩))
    go_ret;exact⟨ret_bool ((show _=_ from by first|rfl|simp).trans E2.out.symm),blN⟩
 ·have zt:(thread== -1)=false:=by simpa using ht
  by_cases h0:thread<0
  ·have E:=hid (firstB_out (arch:=t.arch) (n:=t.code.length) (x:=⟨thread,reg,loc,vloc,n⟩) ht (.inl h0))
   clear hN har ht;go_enter Tryz.func141,Tryz.ntmps141
   go_wp2_with (first|(go_at_call 225;refine(NL.out _).mono ?_;rintro e w1 ⟨rfl,rfl⟩)|(go_at_call 226;refine(NN.out _).mono ?_;rintro e w1 ⟨rfl,rfl⟩))
   go_ret;exact⟨ret_bool (E.out.symm),blN⟩
  have h0':0<=thread:=by omega
  by_cases hc:(N:Int)<=thread
  ·have E:=hid (firstB_out (arch:=t.arch) (n:=t.code.length) (x:=⟨thread,reg,loc,vloc,n⟩) ht (.inr (.inl (by rw[hN];exact hc))))
   rw[<-hN]at hc;clear hN har ht;go_enter Tryz.func141,Tryz.ntmps141
   go_wp2_with (first|(go_at_call 225;refine(NL.out _).mono ?_;rintro e w1 ⟨rfl,rfl⟩)|(go_at_call 226;refine(NN.out _).mono ?_;rintro e w1 ⟨rfl,rfl⟩))
   go_ret;exact⟨ret_bool (E.out.symm),blN⟩
  have hc':thread<t.code.length:=by omega
  cases b4 with
  | false=>
    have E:=hid (firstB_out (arch:=t.arch) (n:=t.code.length) (x:=⟨thread,reg,loc,vloc,n⟩) ht (.inr (.inr (by simpa using HL.out))));clear hN har ht hc;go_enter Tryz.func141,Tryz.ntmps141
    go_wp2_with (first|(go_at_call 225;refine(NL.out _).mono ?_;rintro e w1 ⟨rfl,rfl⟩)|(go_at_call 226;refine(NN.out _).mono ?_;rintro e w1 ⟨rfl,rfl⟩))
    go_ret;exact⟨ret_bool (E.out.symm),blN⟩
  | true=>
    have hnot: ¬(thread<0\/(t.code.length:Int)<=thread\/loc≠[]):=by
     have:=HL.out;simp at this;subst this;simp;omega
    have HA:=hid har
    by_cases ha:ar=2
    ·have za:(t.arch==2)=true:=by rw[har,ha];rfl
     by_cases hr:reg<1\/31<reg
     ·have E:=hid (firstB_reg (arch:=t.arch) (n:=t.code.length) (x:=⟨thread,reg,loc,vloc,n⟩) ht hnot (by rw[if_pos (har.trans ha)];exact hr))
      clear hN har ht hc hnot ha;rcases hr with hr|hr
      all_goals
       go_enter Tryz.func141,Tryz.ntmps141
       go_wp2_with (first|(go_at_call 225;refine(NV.out _).mono ?_;rintro e w1 ⟨rfl,rfl⟩)|(go_at_call 226;refine(NN.out _).mono ?_;rintro e w1 ⟨rfl,rfl⟩))
       go_ret;exact⟨ret_bool (E.out.symm),blN⟩
     ·have r1:1<=reg:=by omega
      have r2:reg<=31:=by omega
      have E:=hid (firstB_in (arch:=t.arch) (n:=t.code.length) (x:=⟨thread,reg,loc,vloc,n⟩) ht hnot (by rw[if_pos (har.trans ha)];exact hr));clear hN har ht hc hnot ha hr;cases b5 with
      | true=>
        have E2:=hid (E.out.trans (show _=b3 by rw[if_neg (by simpa using HV.out)];exact HB.out.2.2));go_enter Tryz.func141,Tryz.ntmps141
        go_wp2_with (first|(go_at_call 225;refine(NV.out _).mono ?_;rintro e w1 ⟨rfl,rfl⟩)|(go_at_call 226;refine(NN.out _).mono ?_;rintro e w1 ⟨rfl,rfl⟩))
        go_ret;exact⟨ret_bool ((show _=_ from by first|rfl|simp).trans E2.out.symm),blN⟩
      | false=>
        by_cases hn0:n=0
        ·subst hn0
         have E2:=hid (E.out.trans (show _=b2 by rw[if_pos (by simpa using HV.out)];simp only[HB.out.2.1,decide_true,Bool.and_true]));cases b2
         all_goals
          go_enter Tryz.func141,Tryz.ntmps141
          go_wp2_with (first|(go_at_call 225;refine(NV.out _).mono ?_;rintro e w1 ⟨rfl,rfl⟩)|(go_at_call 226;refine(NN.out _).mono ?_;rintro e w1 ⟨rfl,rfl⟩))
          go_ret;exact⟨ret_bool ((show _=_ from by first|rfl|simp).trans E2.out.symm),blN⟩
        ·have zn:(n==0)=false:=by simpa using hn0
         have E2:=hid (E.out.trans (show _=false by rw[if_pos (by simpa using HV.out)];simp only[decide_eq_false hn0,Bool.and_false]));clear hn0;cases b2
         all_goals
          go_enter Tryz.func141,Tryz.ntmps141
          go_wp2_with (first|(go_at_call 225;refine(NV.out _).mono ?_;rintro e w1 ⟨rfl,rfl⟩)|(go_at_call 226;refine(NN.out _).mono ?_;rintro e w1 ⟨rfl,rfl⟩))
          go_ret;exact⟨ret_bool ((show _=_ from by first|rfl|simp).trans E2.out.symm),blN⟩
    ·have za:(t.arch==2)=false:=by rw[har];simpa using ha
     by_cases hr:reg<0\/14<reg
     ·have E:=hid (firstB_reg (arch:=t.arch) (n:=t.code.length) (x:=⟨thread,reg,loc,vloc,n⟩) ht hnot (by rw[if_neg (by rw[har];exact ha)];exact hr))
      clear hN har ht hc hnot ha;rcases hr with hr|hr
      all_goals
       go_enter Tryz.func141,Tryz.ntmps141
       go_wp2_with (first|(go_at_call 225;refine(NV.out _).mono ?_;rintro e w1 ⟨rfl,rfl⟩)|(go_at_call 226;refine(NN.out _).mono ?_;rintro e w1 ⟨rfl,rfl⟩))
       go_ret;exact⟨ret_bool (E.out.symm),blN⟩
     ·have r1:0<=reg:=by omega
      have r2:reg<=14:=by omega
      have E:=hid (firstB_in (arch:=t.arch) (n:=t.code.length) (x:=⟨thread,reg,loc,vloc,n⟩) ht hnot (by rw[if_neg (by rw[har];exact ha)];exact hr));clear hN har ht hc hnot ha hr;cases b5 with
      | true=>
        have E2:=hid (E.out.trans (show _=b3 by rw[if_neg (by simpa using HV.out)];exact HB.out.2.2));go_enter Tryz.func141,Tryz.ntmps141
        go_wp2_with (first|(go_at_call 225;refine(NV.out _).mono ?_;rintro e w1 ⟨rfl,rfl⟩)|(go_at_call 226;refine(NN.out _).mono ?_;rintro e w1 ⟨rfl,rfl⟩))
        go_ret;exact⟨ret_bool ((show _=_ from by first|rfl|simp).trans E2.out.symm),blN⟩
      | false=>
        by_cases hn0:n=0
        ·subst hn0
         have E2:=hid (E.out.trans (show _=b2 by rw[if_pos (by simpa using HV.out)];simp only[HB.out.2.1,decide_true,Bool.and_true]));cases b2
         all_goals
          go_enter Tryz.func141,Tryz.ntmps141
          go_wp2_with (first|(go_at_call 225;refine(NV.out _).mono ?_;rintro e w1 ⟨rfl,rfl⟩)|(go_at_call 226;refine(NN.out _).mono ?_;rintro e w1 ⟨rfl,rfl⟩))
          go_ret;exact⟨ret_bool ((show _=_ from by first|rfl|simp).trans E2.out.symm),blN⟩
        ·have zn:(n==0)=false:=by simpa using hn0
         have E2:=hid (E.out.trans (show _=false by rw[if_pos (by simpa using HV.out)];simp only[decide_eq_false hn0,Bool.and_false]));clear hn0;cases b2
         all_goals
          go_enter Tryz.func141,Tryz.ntmps141
          go_wp2_with (first|(go_at_call 225;refine(NV.out _).mono ?_;rintro e w1 ⟨rfl,rfl⟩)|(go_at_call 226;refine(NN.out _).mono ?_;rintro e w1 ⟨rfl,rfl⟩))
          go_ret;exact⟨ret_bool ((show _=_ from by first|rfl|simp).trans E2.out.symm),blN⟩
end Go.Proofs.YtkbbgjloifmmbaaGreatDoor
