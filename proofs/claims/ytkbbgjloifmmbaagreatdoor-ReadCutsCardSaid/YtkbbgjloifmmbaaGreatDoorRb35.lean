/- What ReadBackP leans on, part 35. -/
import Derived.Test.YtkbbgjloifmmbaaGreatDoorRb34
set_option linter.unusedVariables false
set_option maxRecDepth 100000
set_option maxHeartbeats 12800000
namespace Go.Proofs.YtkbbgjloifmmbaaGreatDoor
open _root_.Go.Proofs.Tryz
open _root_.List renaming getElem?_eq_getElem->amK,getElem?_eq_some_iff->ano,mem_of_getElem?->aou,getElem_map->ap8,getElem_drop->ap9,pairwise_iff_getElem->aqa,length_map->ao3,mem_iff_getElem->aqc,any_eq_true->apW,all_eq_true->anq
open _root_.Nat renaming lt_succ_iff_lt_or_eq->an5,not_lt_zero->aoe
open _root_.Bool renaming and_eq_true->am6,and_false->aqb
open Go.RowKit Go.Maps
attribute [local go_sem high] qa jX
theorem afl(code:List Ins)(k:Nat):(kz code k).length=k:=by simp[kz]
theorem afm(code:List Ins)(k:Nat):kz code (k+1)=kz code k++[(eM code k).getD (-1)]:=by simp[kz,List.range_succ]
theorem ael{code:List Ins}(h:code.length<=256)(hc: ∀j (hj:j<code.length),aU code[j]=true){k:Nat}(hk:k<code.length)(h1:eM code k=none)(h2: ∀j,j<k->eM code j≠none):gG code=([],93,(k:Int)):=
 Es h hc hk ((wG code k).2 h1) (fun j hj e=>h2 j hj ((wG code j).1 e))
theorem aem{code:List Ins}(h:code.length<=256)(hc: ∀j (hj:j<code.length),aU code[j]=true)(h2: ∀j,j<code.length->eM code j≠none):gG code=(kz code code.length,0,0):=by
 have h3: ∀j,j<code.length->gZ code j≠none:=fun j hj e=>h2 j hj ((wG code j).1 e)
 rw[Sp h hc h3,Tz code h3]
theorem ajZ{code:List Ins}{k:Nat}{i:Ins}(hi:code[k]? =some i)(h1:i.op≠12)(h2:i.op≠11):eM code k=some (-1):=by
 unfold eM;rw[hi];simp only;rw[if_neg h1,if_neg h2]
theorem ajX{code:List Ins}{k:Nat}{i:Ins}(hi:code[k]? =some i)(h1:i.op=12)(h: ∀j x,j<k->code[j]? =some x->bR i.label x=false):eM code k=some (-1):=by
 unfold eM;rw[hi];simp only;rw[if_pos h1,if_neg];intro ha;rw[apW]at ha;obtain⟨x,hx,hp⟩:=ha;obtain⟨j,hj,he⟩:=aqc.1 hx;simp at hj;rw[List.getElem_take]at he;rw[h j x (by omega) (by rw[amK (by omega),he])]at hp;cases hp
theorem aj1{code:List Ins}{k j:Nat}{i x:Ins}(hi:code[k]? =some i)(h1:i.op=12)(hj:j<k)(hx:code[j]? =some x)(hp:bR i.label x=true):eM code k=none:=by
 unfold eM;rw[hi];simp only;rw[if_pos h1,if_pos];obtain⟨hlt,he⟩:=ano.1 hx;refine apW.2 ⟨x,?_,hp⟩;rw[List.mem_take_iff_getElem];exact⟨j,by omega,he⟩
theorem aj0{code:List Ins}{k j:Nat}{i x:Ins}(hi:code[k]? =some i)(h1:i.op=11)(hj:k<j)(hx:code[j]? =some x)(hp:bR i.label x=true)(h: ∀m y,k<m->m<j->code[m]? =some y->bR i.label y=false):eM code k=some (j:Int):=by
 unfold eM;rw[hi];simp only;rw[if_neg (by omega),if_pos h1];obtain⟨hlt,he⟩:=ano.1 hx
 have:(code.drop (k+1)).findIdx? (bR i.label)=some (j-(k+1)):=by
  rw[List.findIdx?_eq_some_iff_getElem];refine⟨by simp;omega,?_,fun m hm=>?_⟩
  ·rw[ap9]
   have:code[k+1+(j-(k+1))]'(by omega)=x:=by
    have e:k+1+(j-(k+1))=j:=by omega
    simp only[e];exact he
   rw[this];exact hp
  ·rw[ap9]
   rw[h (k+1+m) _ (by omega) (by omega) (amK (by omega))];simp
 rw[this];simp only[Option.map_some]
 congr 2;omega
theorem ajY{code:List Ins}{k:Nat}{i:Ins}(hi:code[k]? =some i)(h1:i.op=11)(h: ∀m y,k<m->code[m]? =some y->bR i.label y=false):eM code k=none:=by
 unfold eM;rw[hi];simp only;rw[if_neg (by omega),if_pos h1]
 have:(code.drop (k+1)).findIdx? (bR i.label)=none:=by
  rw[List.findIdx?_eq_none_iff];intro x hx;obtain⟨j,hj,rfl⟩:=aqc.1 hx;rw[ap9];simp at hj;exact h (k+1+j) _ (by omega) (amK (by omega))
 rw[this];rfl
theorem Rx{nm:Tx}{x:Ins}(h:x.op≠12):bR nm x=false:=by
 cases hb:bR nm x with
 |false=>rfl
 |true=>exact absurd (ql.1 hb).1 h
theorem Ry{nm:Tx}{x:Ins}(h:x.label≠nm):bR nm x=false:=by
 cases hb:bR nm x with
 |false=>rfl
 |true=>exact absurd (ql.1 hb).2 h
theorem aiA(code:List Ins)(a:Option Addr)(c:Nat)(hl:256<code.length)(w:World):Calls prog 242 #[.slice a code.length c] w (iL (gG code) w):=by
 obtain⟨r,hr⟩: ∃r,gG code=r:=⟨_,rfl⟩;rw[hr];have HK:=hid (show r=([],2,0) by rw[<-hr,Sn hl]);have hz:decide (256<(code.length:Int))=true:=by simp;omega
 generalize code.length=n at*;clear hr hl;go_in;go_wp2_with fail
 go_ret3
 exact iL.nil HK.out rfl (Below.refl _ _)
theorem aiB(code:List Ins)(a:Option Addr)(c:Nat)(hl:code.length<=256)(hL: ∀i∈code,i.label.length<=9223372036854775807)(w:World)(hI:Is w a code):
 Calls prog 242 #[.slice a code.length c] w (iL (gG code) w):=by
 obtain⟨r,hr⟩: ∃r,gG code=r:=⟨_,rfl⟩;rw[hr];have HR:=hid hr;obtain⟨n,hn⟩: ∃n,code.length=n:=⟨_,rfl⟩;have HN:=hid hn;have HL:=hid hL;have hz:decide (256<(n:Int))=false:=by simp;omega
 have wV:=hid hI;have HG:=hid (fun(k:Nat) (hk:k<n)=>show ∃i,code[k]? =some i from⟨_,amK (by omega)⟩);have AO:=hI.idx;rw[hn]at AO;have HX:=hid AO;rw[hn]at hl⊢;clear hr hL hn hI AO;go_in;go_wp2_with fail
 go_loopw [6] (fun i wr=> ∃k:Nat,k<=n/\i= .int .i64 k/\Hid (∀j (hj:j<code.length),j<k->aU code[j]=true)/\Below w.heap.size w wr) (fun i _=>n-(intOf i).toNat)
 case atStart=>exact⟨0,by omega,rfl,hid (fun j hj h'=>absurd h' (aoe j)),Below.refl _ _⟩
 case round=>
  obtain⟨k,hk,rfl,HC,E⟩:=hrel;have hI:=wV.out.below E
  by_cases hlt:k<n
  ·obtain⟨i,hi⟩:=HG.out k hlt
   have hik:code[k]'(by have:=HN.out;omega)=i:=Option.some.inj ((amK (by have:=HN.out;omega)).symm.trans hi);obtain⟨p0,p1,p2,p3,p4,p5,p6,p7⟩:=hI.cells hi;have ix:=HX.out k hlt;have CK:=hid (fun(w:World)=>EY i (HL.out i (by rw[<-hik];exact List.getElem_mem _)) w);have HI:=hid hik;clear hi hik hI;cases cS:aU i
   ·have hE:=gS cS
    rw[hE]at CK
    have HF:=hid (show r=([],91,(k:Int)) by
     rw[<-HR.out];exact Sl (by have:=HN.out;omega) (by have:=HN.out;omega) (by rw[HI.out];exact cS) HC.out)
    clear hE cS;go_wp2_with fail;refine(CK.out _).mono ?_;rintro e w2 ⟨rfl,E2⟩;have E:=E.trans (E2.mono E.size);clear p0 p1 p2 p3 p4 p5 p6 p7 ix E2;go_wp2_with fail
    go_ret3
    exact iL.nil HF.out rfl E
   ·have hE:=rN cS
    rw[hE]at CK
    have wT:=hid (show ∀j (hj:j<code.length),j<k+1->aU code[j]=true from fun j hj hjk=>by
     by_cases hh:j=k
     ·subst hh;rw[HI.out];exact cS
     ·exact HC.out j hj (by omega))
    clear hE cS;go_wp2_with fail;refine(CK.out _).mono ?_;rintro e w2 ⟨rfl,E2⟩;have E:=E.trans (E2.mono E.size);clear p0 p1 p2 p3 p4 p5 p6 p7 ix E2;go_wp2_with fail
    go_roundw
    case rel=>exact⟨k+1,by omega,by go_num,wT,E⟩
    case measure=>simp[intOf];omega
  ·obtain rfl:k=n:=by omega
   have qR:=hid (show ∀j (hj:j<code.length),aU code[j]=true from fun j hj=>HC.out j hj (by have:=HN.out;omega));clear HC hI hlt hk;generalize k=n at*;go_wp2_with fail
   go_loopw [7,8] (fun o i wr=> ∃(k:Nat) (a':Option Addr) (c':Nat),k<=n/\i= .int .i64 k/\o= .slice a' k c'/\cI wr w.heap.size a' k c' (kz code k)/\Hid (∀j,j<k->eM code j≠none)/\Below w.heap.size w wr) (fun _ i _=>n-(intOf i).toNat)
   case atStart=>exact⟨0,none,0,by omega,rfl,rfl,Own.nil _ _ _ _,hid (fun j h'=>absurd h' (aoe j)),E⟩
   case round=>
    clear E;obtain⟨k,a',c',hk,rfl,rfl,o,HS,E⟩:=hrel;have hI:=wV.out.below E
    by_cases hlt:k<n
    ·obtain⟨i,hi⟩:=HG.out k hlt
     obtain⟨p0,p1,p2,p3,p4,p5,p6,p7⟩:=hI.cells hi;have ix:=HX.out k hlt;have hcl:k<code.length:=by have:=HN.out;omega
     have L9:=hid (fun(h:eM code k=none)=>show r=([],93,(k:Int))from HR.out.symm.trans (ael (by have:=HN.out;omega) qR.out hcl h HS.out))
     have Gc:=hid (fun(t:Int) (h:eM code k=some t)=>show(∀j,j<k+1->eM code j≠none)/\kz code (k+1)=kz code k++[t]from⟨fun j hj e=>by
      by_cases hh:j=k
      ·subst hh;rw[h]at e;cases e
      ·exact HS.out j (by omega) e,by rw[afm,h];rfl⟩)
     have qT:=hid hi;clear hcl
     by_cases h12:i.op=12
     ·have Cs:=hid h12
      rw[h12]at p0;have z12:(i.op==12)=true:=by simpa using h12
      clear h12 hi;go_wp2_with fail
      go_loopw [10] (fun jv wq=> ∃m:Nat,m<=k/\jv= .int .i64 m/\QW wr wq/\Hid (∀j x,j<m->code[j]? =some x->bR i.label x=false)) (fun jv _=>k-(intOf jv).toNat)
      case atStart=>exact⟨0,by omega,rfl,QW.refl _,hid (fun j x h=>absurd h (aoe j))⟩
      case round=>
       obtain⟨m,hm,rfl,⟨q,rfl⟩,HM⟩:=hrel
       by_cases hmk:m<k
       ·obtain⟨x,hx⟩:=HG.out m (by omega)
        obtain⟨x0,x1,x2,x3,x4,x5,x6,x7⟩:=hI.cells hx;have jx:=HX.out m (by omega)
        by_cases lJ:x.op=12
        ·rw[lJ]at x0
         by_cases hxl:x.label=i.label
         ·have HB:=hid (L9.out (aj1 qT.out Cs.out hmk hx (ql.2 ⟨lJ,hxl⟩)))
          have zl:((tx x.label).toList==(tx i.label).toList)=true:=by rw[jG];simpa using hxl
          have WT:(x.label==i.label)=true:=by simpa using hxl
          clear hx lJ hxl;go_wp2_with fail
          go_quiet (fail)
          go_wp2_with fail
          go_ret3
          exact iL.nil HB.out rfl (E.trans ((QW.below ⟨_,by first|rfl|exact World.drewN_drewN _ _ _⟩).mono E.size))
         ·have dF:=hid (show ∀j y,j<m+1->code[j]? =some y->bR i.label y=false from fun j y hj hy=>by
           rcases an5.1 hj with h|h
           ·exact HM.out j y h hy
           ·subst h;rw[hx]at hy;cases hy;exact Ry hxl)
          have zl:((tx x.label).toList==(tx i.label).toList)=false:=sI hxl;clear hx lJ hxl;go_wp2_with fail
          go_quiet (fail)
          go_wp2_with fail
          go_roundw
          case rel=>exact⟨m+1,by omega,by go_num,(by repeat(first|exact QW.refl _|refine QW.d ?_ _)),dF⟩
          case measure=>simp[intOf];omega
        ·have dF:=hid (show ∀j y,j<m+1->code[j]? =some y->bR i.label y=false from fun j y hj hy=>by
          rcases an5.1 hj with h|h
          ·exact HM.out j y h hy
          ·subst h;rw[hx]at hy;cases hy;exact Rx lJ)
         have zx:(x.op==12)=false:=by simpa using lJ
         clear hx lJ;go_wp2_with fail
         go_quiet (fail)
         go_wp2_with fail
         go_roundw
         case rel=>exact⟨m+1,by omega,by go_num,(by repeat(first|exact QW.refl _|refine QW.d ?_ _)),dF⟩
         case measure=>simp[intOf];omega
       ·obtain rfl:m=k:=by omega
        have HST:=hid (ajX qT.out Cs.out HM.out);obtain⟨hs1,hs2⟩:=Gc.out _ HST.out;have xe:=hid hs1;have iz:=hid hs2;have QB:=QW.below (w:=wr) ⟨q,rfl⟩;have E:=E.trans (QB.mono E.size);have o:=Own.below o QB;clear hs1 hs2 QB
        go_wp2_with (at_builtin;go_loud(refine wO mA (.tmp 110) (.tmp 112) rfl rfl rfl o rfl rfl (by intro u hu;simp at hu;subst hu;rfl) E E.size (by omega) (by unfold maxLen;omega) ?_))
        intro a3 c3 w3 o3 g3 B3;have o4:cI w3 w.heap.size a3 (m+1) c3 (kz code (m+1)):=by rw[iz.out];simpa[cI,ints]using o3
        clear o o3 g3 E iz;go_wp2_with fail
        go_roundw
        case rel=>exact⟨m+1,a3,c3,by omega,by go_num,rfl,o4,xe,B3⟩
        case measure=>simp[intOf];omega
     ·have z12:(i.op==12)=false:=by simpa using h12
      have Cs:=hid h12;clear h12
      by_cases h11:i.op=11
      ·have L4:=hid h11
       rw[h11]at p0;clear h11 hi z12;go_wp2_with fail
       go_loopw [9,11] (fun tv jv wq=> ∃m:Nat,k<m/\m<=n/\jv= .int .i64 m/\QW wr wq/\((tv= .int .i64 (-1)/\Hid (∀j y,k<j->j<m->code[j]? =some y->bR i.label y=false))\/(∃t:Nat,tv= .int .i64 t/\Hid (eM code k=some (t:Int))))) (fun tv jv _=>n-(intOf jv).toNat)
       case atStart=>exact⟨k+1,by omega,by omega,by go_num,QW.refl _,.inl ⟨rfl,hid (fun j y h1 h2=>by omega)⟩⟩
       case round=>
        obtain⟨m,hkm,hm,rfl,⟨q,rfl⟩,⟨rfl,HM⟩|⟨t,rfl,HT⟩⟩:=hrel
        ·by_cases hmn:m<n
         ·obtain⟨x,hx⟩:=HG.out m hmn
          obtain⟨x0,x1,x2,x3,x4,x5,x6,x7⟩:=hI.cells hx;have jx:=HX.out m hmn
          by_cases lJ:x.op=12
          ·rw[lJ]at x0
           by_cases hxl:x.label=i.label
           ·have HB:=hid (aj0 qT.out L4.out hkm hx (ql.2 ⟨lJ,hxl⟩) HM.out)
            have zl:((tx x.label).toList==(tx i.label).toList)=true:=by rw[jG];simpa using hxl
            clear hx lJ hxl;go_wp2_with fail
            go_quiet (fail)
            go_wp2_with fail
            go_roundw
            case rel=>exact⟨m+1,by omega,by omega,by go_num,(by repeat(first|exact QW.refl _|refine QW.d ?_ _)),.inr ⟨m,rfl,HB⟩⟩
            case measure=>simp[intOf];omega
           ·have dF:=hid (show ∀j y,k<j->j<m+1->code[j]? =some y->bR i.label y=false from fun j y hkj hj hy=>by
             rcases an5.1 hj with h|h
             ·exact HM.out j y hkj h hy
             ·subst h;rw[hx]at hy;cases hy;exact Ry hxl)
            have zl:((tx x.label).toList==(tx i.label).toList)=false:=sI hxl;clear hx lJ hxl;go_wp2_with fail
            go_quiet (fail)
            go_wp2_with fail
            go_roundw
            case rel=>exact⟨m+1,by omega,by omega,by go_num,(by repeat(first|exact QW.refl _|refine QW.d ?_ _)),.inl ⟨rfl,dF⟩⟩
            case measure=>simp[intOf];omega
          ·have dF:=hid (show ∀j y,k<j->j<m+1->code[j]? =some y->bR i.label y=false from fun j y hkj hj hy=>by
            rcases an5.1 hj with h|h
            ·exact HM.out j y hkj h hy
            ·subst h;rw[hx]at hy;cases hy;exact Rx lJ)
           have zx:(x.op==12)=false:=by simpa using lJ
           clear hx lJ;go_wp2_with fail
           go_quiet (fail)
           go_wp2_with fail
           go_roundw
           case rel=>exact⟨m+1,by omega,by omega,by go_num,(by repeat(first|exact QW.refl _|refine QW.d ?_ _)),.inl ⟨rfl,dF⟩⟩
           case measure=>simp[intOf];omega
         ·have HB:=hid (L9.out (ajY qT.out L4.out (fun j y hkj hy=>HM.out j y hkj (by have:=(ano.1 hy).1;have:=HN.out;omega) hy)))
          have QB:=QW.below (w:=wr) ⟨q,rfl⟩;have E:=E.trans (QB.mono E.size);clear QB;go_wp2_with fail
          go_ret3
          exact iL.nil HB.out rfl E
        ·obtain⟨hs1,hs2⟩:=Gc.out _ HT.out
         have xe:=hid hs1;have iz:=hid hs2;have QB:=QW.below (w:=wr) ⟨q,rfl⟩;have E:=E.trans (QB.mono E.size);have o:=Own.below o QB;have ht0: ¬((t:Int)<0):=by omega
         have ht1:decide ((t:Int)<0)=false:=by simp
         clear hs1 hs2 QB;rcases Nat.lt_or_ge m n with acy|acy
         ·skip
          go_wp2_with (at_builtin;go_loud(refine wO mA (.tmp 110) (.tmp 112) rfl rfl rfl o rfl rfl (by intro u hu;simp at hu;subst hu;rfl) E E.size (by omega) (by unfold maxLen;omega) ?_))
          intro a3 c3 w3 o3 g3 B3;have o4:cI w3 w.heap.size a3 (k+1) c3 (kz code (k+1)):=by rw[iz.out];simpa[cI,ints]using o3
          clear o o3 g3 E iz;go_wp2_with fail
          go_roundw
          case rel=>exact⟨k+1,a3,c3,by omega,by go_num,rfl,o4,xe,B3⟩
          case measure=>simp[intOf];omega
         ·skip
          go_wp2_with (at_builtin;go_loud(refine wO mA (.tmp 110) (.tmp 112) rfl rfl rfl o rfl rfl (by intro u hu;simp at hu;subst hu;rfl) E E.size (by omega) (by unfold maxLen;omega) ?_))
          intro a3 c3 w3 o3 g3 B3;have o4:cI w3 w.heap.size a3 (k+1) c3 (kz code (k+1)):=by rw[iz.out];simpa[cI,ints]using o3
          clear o o3 g3 E iz;go_wp2_with fail
          go_roundw
          case rel=>exact⟨k+1,a3,c3,by omega,by go_num,rfl,o4,xe,B3⟩
          case measure=>simp[intOf];omega
      ·have HST:=hid (ajZ hi Cs.out h11)
       have Ci:(i.op==11)=false:=by simpa using h11
       obtain⟨hs1,hs2⟩:=Gc.out _ HST.out;have xe:=hid hs1;have iz:=hid hs2;clear hs1 hs2 h11 hi
       go_wp2_with (at_builtin;go_loud(refine wO mA (.tmp 110) (.tmp 112) rfl rfl rfl o rfl rfl (by intro u hu;simp at hu;subst hu;rfl) E E.size (by omega) (by unfold maxLen;omega) ?_))
       intro a3 c3 w3 o3 g3 B3;have o4:cI w3 w.heap.size a3 (k+1) c3 (kz code (k+1)):=by rw[iz.out];simpa[cI,ints]using o3
       clear o o3 g3 E iz;go_wp2_with fail
       go_roundw
       case rel=>exact⟨k+1,a3,c3,by omega,by go_num,rfl,o4,xe,B3⟩
       case measure=>simp[intOf];omega
    ·obtain rfl:k=n:=by omega
     have HF:=hid (show r=(kz code k,0,0) by rw[<-HR.out,aem (by have:=HN.out;omega) qR.out (fun j hj=>HS.out j (by have:=HN.out;omega)),HN.out]);go_wp2_with fail
     go_ret3
     exact iL.of HF.out rfl (afl _ _) o E
theorem aiz(code:List Ins)(a:Option Addr)(c:Nat)(hL: ∀i∈code,i.label.length<=9223372036854775807)(w:World)(hI:Is w a code):
 Calls prog 242 #[.slice a code.length c] w (iL (gG code) w):=by
 by_cases hl:code.length<=256
 ·exact aiB code a c hl hL w hI
 ·exact aiA code a c (by omega) w
end Go.Proofs.YtkbbgjloifmmbaaGreatDoor
namespace Go.Proofs.YtkbbgjloifmmbaaGreatDoor
open _root_.Go.Proofs.Tryz
open _root_.List renaming getElem?_eq_getElem->amK,getElem?_eq_some_iff->ano,mem_of_getElem?->aou,getElem_map->ap8,getElem_drop->ap9,pairwise_iff_getElem->aqa,length_map->ao3,mem_iff_getElem->aqc,any_eq_true->apW,all_eq_true->anq
open _root_.Nat renaming lt_succ_iff_lt_or_eq->an5,not_lt_zero->aoe
open _root_.Bool renaming and_eq_true->am6,and_false->aqb
open Go.RowKit Go.Sort
theorem ahz(af:Int)(ha:af=1\/af=2)(i:Ins)(h1:i.loc.length<=9223372036854775807)(h2:i.label.length<=9223372036854775807)(w:World):Calls prog 241 #[.int .i64 af,vI i] w (ax w (.int .i64 (if gF af i=true then 0 else 91))):=by
 have A:=al w (eC i);obtain⟨c0,c1,c2,c3,c4,c5,c6,c7⟩:=(dK.new w i).cells;rcases ha with rfl|rfl
 focus
  have CK:=hid (fun w=>Ku i h1 w);rw[show(if gF 1 i=true then(0:Int)else 91)=mW i from rfl];generalize mW i=e at*
 rotate_left
 focus
  have CK:=hid (fun w=>EY i h2 w);rw[show(if gF 2 i=true then(0:Int)else 91)=eR i from rfl];generalize eR i=e at*
 all_goals
  go_in;go_wp2_with fail;refine(CK.out _).mono ?_;rintro ee w1 ⟨rfl,E⟩;have B:=A.trans (E.mono A.size);go_wp2_with fail;go_ret;exact⟨rfl,B⟩
theorem UL(t:ak)(ha:t.af=1\/t.af=2)(w:World)(h:dw w t):Calls prog 167 #[vT t] w (ax w (.int .i64 (cg t))):=by
 have A:=al w (bC t);have b0:=eG.new w t;have HI:=hid (h.keep A);have HA:=hid A;have uF:=hid ha;have hcl:=h.code.len;clear ha
 by_cases hn:t.code.length<1\/16<t.code.length
 ·rw[Oj hn]
  obtain⟨c0,c1,c2,c3,c4,c5,c6,c7,c8,c9,c10,c11⟩:=b0.cells;clear h A;rcases hn with hn|hn
  all_goals
   go_in;go_wp2_with fail;go_ret;exact⟨rfl,HA.out⟩
 ·have h1:1<=t.code.length:=by omega
  have xR:t.code.length<=16:=by omega
  have mO:=hid hn;clear hn h A;go_in
  go_upto_region 1 with(fail)
  generalize w.alloc (bC t)=W1 at*;obtain⟨c0,c1,c2,c3,c4,c5,c6,c7,c8,c9,c10,c11⟩:=b0.cells;go_wp2_with fail;clear c0 c1 c2 c3 c4 c5 c6 c7 c8 c9 c10 c11
  go_loopw [3] (fun i wr=> ∃k:Nat,k<=t.code.length/\i= .int .i64 k/\Below W1.heap.size W1 wr/\Hid (∀(j:Nat) (x:Cd),j<k->t.code[j]? =some x->x.l.length<=256)) (fun i _=>t.code.length-(intOf i).toNat)
  case atStart=>exact⟨0,by omega,rfl,Below.refl _ _,fun j x hj=>absurd hj (aoe j)⟩
  case round=>
   obtain⟨k,hk,rfl,E,HK⟩:=hrel;obtain⟨c0,c1,c2,c3,c4,c5,c6,c7,c8,c9,c10,c11⟩:=(b0.below E).cells
   by_cases hlt:k<t.code.length
   ·obtain⟨x,hx⟩: ∃x,t.code[k]? =some x:=⟨_,amK hlt⟩
    have p0:=(HI.out.code.below E).cd hx;have ix:=HI.out.code.mS k hlt t.cc;have hxl:=(HI.out.rows x (aou hx)).is.len;have HX:=hid hx;clear hx
    by_cases hl:256<x.l.length
    ·have HZ:=hid (Oi mO.out HX.out hl)
     go_wp2_with fail;go_ret;rw[HZ.out];exact⟨rfl,HA.out.trans (E.mono HA.out.size)⟩
    ·have hl':x.l.length<=256:=by omega
     have fJ: ∀(j:Nat) (y:Cd),j<k+1->t.code[j]? =some y->y.l.length<=256:=fun j y hj hy=>by
      rcases an5.1 hj with h|h
      ·exact HK.out j y h hy
      ·subst h;rw[HX.out]at hy;cases hy;exact hl'
     have fJ:=hid fJ;clear HK hl;go_wp2_with fail
     go_roundw
     case rel=>exact⟨k+1,by omega,by go_num,E,fJ⟩
     case measure=>simp[intOf];omega
   ·obtain rfl:k=t.code.length:=by omega
    have HR:=hid (Ok mO.out (fun k x hx=>HK.out k x (ano.1 hx).1 hx));have HL:=hid (fun(k:Nat) (x:Cd) (hx:t.code[k]? =some x)=>HK.out k x (ano.1 hx).1 hx);clear HK hk hlt;go_wp2_with fail;clear c0 c1 c2 c3 c4 c5 c6 c7 c8 c9 c10 c11
    go_loopw [4] (fun i wr2=> ∃k:Nat,k<=t.code.length/\i= .int .i64 k/\Below W1.heap.size W1 wr2/\Hid (gY t.af (t.code.drop k)=cg t)) (fun i _=>t.code.length-(intOf i).toNat)
    case atStart=>exact⟨0,by omega,rfl,E,by rw[List.drop_zero];exact HR.out.symm⟩
    case round=>
     clear E;obtain⟨k,hk,rfl,E,HD⟩:=hrel;obtain⟨c0,c1,c2,c3,c4,c5,c6,c7,c8,c9,c10,c11⟩:=(b0.below E).cells
     by_cases hlt:k<t.code.length
     ·obtain⟨x,hx⟩: ∃x,t.code[k]? =some x:=⟨_,amK hlt⟩
      have ix:=HI.out.code.mS k hlt t.cc;have kr:=HI.out.rows x (aou hx);have hxl:=kr.is.len;have iZ:=hid kr;have XS:=hid hx;have hl6:=HL.out k x hx;have HD:=hid (show(if lW t.af x.l=0 then gY t.af (t.code.drop (k+1))else lW t.af x.l)=cg t by rw[<-Vq hx];exact HD.out);clear hx kr;go_wp2_with fail;clear c0 c1 c2 c3 c4 c5 c6 c7 c8 c9 c10 c11
      go_loopw [5] (fun i LX=> ∃j:Nat,j<=x.l.length/\i= .int .i64 j/\Below W1.heap.size W1 LX/\Hid (∀(m:Nat) (i:Ins),m<j->x.l[m]? =some i->gF t.af i=true)) (fun i _=>x.l.length-(intOf i).toNat)
      case atStart=>exact⟨0,by omega,rfl,E,fun j x hj=>absurd hj (aoe j)⟩
      case round=>
       clear E;obtain⟨j,hj,rfl,E,HJ⟩:=hrel;obtain⟨c0,c1,c2,c3,c4,c5,c6,c7,c8,c9,c10,c11⟩:=(b0.below E).cells;have p0:=(HI.out.code.below E).cd XS.out
       by_cases hjt:j<x.l.length
       ·obtain⟨i,hi⟩: ∃i,x.l[j]? =some i:=⟨_,amK hjt⟩
        obtain⟨q0,q1,q2,q3,q4,q5,q6,q7⟩:=(iZ.out.is.below E).cells hi;have vS:=(iZ.out.is.below E).idx j hjt x.c;have hb:=iZ.out.nY i (aou hi);have CK:=hid (fun w=>ahz t.af uF.out i hb.1 hb.2 w);have qU:=hid hi;clear hi hb;obtain⟨e,he⟩: ∃e:Int,(if gF t.af i=true then 0 else 91)=e:=⟨_,rfl⟩;rw[he]at CK;have HE:=hid he;clear he;go_wp2_with fail;have cA:=fun(d:Nat) (os:Array Obj)=>Calls.regrown_of (kB (CK.out (grow (redrawn wr d) os)))
        have q0:=cell_regrown q0;have q1:=cell_regrown q1;have q2:=cell_regrown q2;have q3:=cell_regrown q3;have q4:=cell_regrown q4;have q5:=cell_regrown q5;have q6:=cell_regrown q6;have q7:=cell_regrown q7;have c0:=cell_regrown c0;have c4:=cell_regrown c4;have p0:=cell_regrown p0;refine wp_region_quiet_below (by kernel_rfl) (by kernel_rfl) ?_
        repeat(go_big_quiet_step (exact cA _ _))
        refine wpQuiet_nil ?_;intro _ hw';obtain⟨⟨dq,aV⟩,hw''⟩:=hw';subst hw'';have EQ:=below_regrown wr dq aV;generalize grow (redrawn wr dq) aV=W5 at*;have E:=E.trans (EQ.mono E.size);clear q0 q1 q2 q3 q4 q5 q6 q7 EQ CK c0 c1 c2 c3 c4 c5 c6 c7 c8 c9 c10 c11 p0 vS cA
        by_cases cS:gF t.af i=true
        ·have e0:e=0:=by rw[<-HE.out,if_pos cS]
         subst e0
         have fc: ∀(m:Nat) (y:Ins),m<j+1->x.l[m]? =some y->gF t.af y=true:=fun m y hm hy=>by
          rcases an5.1 hm with h|h
          ·exact HJ.out m y h hy
          ·subst h;rw[qU.out]at hy;cases hy;exact cS
         have fc:=hid fc;clear cS HJ qU HE;go_wp2_with fail
         go_roundw
         case rel=>exact⟨j+1,by omega,by go_num,E,fc⟩
         case measure=>simp[intOf];omega
        ·have e0:e=91:=by rw[<-HE.out,if_neg cS]
         subst e0;have HZ:=hid (show cg t=91 by rw[<-HD.out,Ve qU.out (by simpa using cS),if_neg (by omega)]);clear cS HJ qU HE;go_wp2_with fail;go_ret;rw[HZ.out];exact⟨rfl,HA.out.trans (E.mono HA.out.size)⟩
       ·obtain rfl:j=x.l.length:=by omega
        have mP:=hid (Vd (fun m i hi=>HJ.out m i (ano.1 hi).1 hi));rcases uF.out with ha|ha
        ·have HD:=hid (show gY t.af (t.code.drop (k+1))=cg t by rw[<-HD.out,if_pos (by rw[mP.out,ha];rfl)])
         rw[ha]at c0;clear HJ ha mP;go_wp2_with fail
         go_roundw
         case rel=>exact⟨k+1,by omega,by go_num,E,HD⟩
         case measure=>simp[intOf];omega
        rw[ha]at c0;have Ay: ∀i∈x.l,i.label.length<=9223372036854775807:=fun i hi=>(iZ.out.nY i hi).2
        have LK:=aiz x.l x.a x.c Ay wr (iZ.out.is.below E);obtain⟨e,he⟩: ∃e,(gG x.l).2.1=e:=⟨_,rfl⟩
        have HD:=hid (show(if e=0 then gY t.af (t.code.drop (k+1))else e)=cg t by
         rw[<-HD.out,show lW t.af x.l=e from by rw[mP.out,if_pos ha,he]])
        have uK:=hid he;have LK:=hid LK;clear HJ he Ay mP ha;go_wp2_with fail;refine LK.out.mono ?_;rintro ee w5 ⟨a5,Za,rfl,o5,E5⟩;rw[uK.out];have E:=E.trans (E5.mono E.size);clear o5 E5 LK c0 c1 c2 c3 c4 c5 c6 c7 c8 c9 c10 c11 p0 ix
        by_cases h0:e=0
        ·subst h0
         have HD:=hid (show gY t.af (t.code.drop (k+1))=cg t from HD.out);go_wp2_with fail
         go_roundw
         case rel=>exact⟨k+1,by omega,by go_num,E,HD⟩
         case measure=>simp[intOf];omega
        ·have z0:(e != 0)=true:=by simpa using h0
         have HZ:=hid (show cg t=e by rw[<-HD.out,if_neg h0]);clear h0;go_wp2_with fail;go_ret;rw[HZ.out];exact⟨rfl,HA.out.trans (E.mono HA.out.size)⟩
     ·obtain rfl:k=t.code.length:=by omega
      have HZ:=hid (show cg t=0 by rw[<-HD.out];exact Vr);go_wp2_with fail;go_ret;rw[HZ.out];exact⟨rfl,HA.out.trans (E.mono HA.out.size)⟩
theorem ahr(t:ak)(ha:t.af=1)(w:World)(h:dw w t):Calls prog 167 #[vT t] w (ax w (.int .i64 (cg t))):=UL t (.inl ha) w h
theorem ahs(t:ak)(ha:t.af=2)(w:World)(h:dw w t):Calls prog 167 #[vT t] w (ax w (.int .i64 (cg t))):=UL t (.inr ha) w h
end Go.Proofs.YtkbbgjloifmmbaaGreatDoor
namespace Go.Proofs.YtkbbgjloifmmbaaGreatDoor
open _root_.Go.Proofs.Tryz
open _root_.List renaming getElem?_eq_getElem->amK,getElem?_eq_some_iff->ano,mem_of_getElem?->aou,getElem_map->ap8,getElem_drop->ap9,pairwise_iff_getElem->aqa,length_map->ao3,mem_iff_getElem->aqc,any_eq_true->apW,all_eq_true->anq
open _root_.Nat renaming lt_succ_iff_lt_or_eq->an5,not_lt_zero->aoe
open _root_.Bool renaming and_eq_true->am6,and_false->aqb
def wS(t:ak)(k:Nat):Prop:= ∀(i:Nat) (x:aF),i<k->t.init[i]? =some x->eT t.af t.code.length x=true
def wQ(t:ak)(k:Nat):Prop:= ∀(i j:Nat) (x y:aF),i<j->j<k->t.init[i]? =some x->t.init[j]? =some y->eZ x≠eZ y
theorem Nl{t:ak}(h:1024<t.init.length):dW t=2:=by unfold dW;rw[if_pos h]
theorem Nk{t:ak}{k:Nat}{x:aF}(h: ¬1024<t.init.length)(hx:t.init[k]? =some x)(hf:eT t.af t.code.length x=false):dW t=130:=by
 unfold dW;rw[if_neg h,if_neg];intro h2;rw[am6,anq]at h2;rw[h2.1 x (aou hx)]at hf;cases hf
theorem Np{t:ak}{j k:Nat}{x y:aF}(h: ¬1024<t.init.length)(hjk:j<k)(hy:t.init[j]? =some y)(hx:t.init[k]? =some x)(he:eZ y=eZ x):dW t=130:=by
 unfold dW;rw[if_neg h,if_neg];intro h2;rw[am6,decide_eq_true_eq]at h2;have h3:=aqa.1 h2.2;obtain⟨h4,rfl⟩:=ano.1 hx;obtain⟨h5,rfl⟩:=ano.1 hy;refine h3 j k (by rw[ao3];exact h5) (by rw[ao3];exact h4) hjk ?_;rw[ap8,ap8];exact he
theorem Nn{t:ak}(h: ¬1024<t.init.length)(hf:wS t t.init.length)(ha:wQ t t.init.length):dW t=0:=by
 unfold dW;rw[if_neg h,if_pos];rw[am6,decide_eq_true_eq,anq];refine⟨fun x hx=>?_,aqa.2 fun i j hi hj hij=>?_⟩
 ·obtain⟨k,hk⟩:=List.mem_iff_getElem?.1 hx
  exact hf k x (ano.1 hk).1 hk
 ·rw[ao3]at hj
  rw[ap8,ap8];exact ha i j _ _ hij hj (amK _) (amK _)
theorem wS.snoc{t:ak}{k:Nat}{x:aF}(h:wS t k)(hx:t.init[k]? =some x)(hf:eT t.af t.code.length x=true):wS t (k+1):=fun i y hi hy=>by
 rcases an5.1 hi with h1|h1
 ·exact h i y h1 hy
 ·subst h1;rw[hx]at hy;cases hy;exact hf
theorem wQ.snoc{t:ak}{k:Nat}{x:aF}(h:wQ t k)(hx:t.init[k]? =some x)(hf: ∀(i:Nat) (y:aF),i<k->t.init[i]? =some y->eZ y≠eZ x):wQ t (k+1):=fun i j y z hij hj hy hz=>by
 rcases an5.1 hj with h1|h1
 ·exact h i j y z hij h1 hy hz
 ·subst h1;rw[hx]at hz;cases hz;exact hf i y hij hy
theorem RL(x y:aF):eZ y=eZ x<->(x.thread=y.thread/\x.au=y.au/\x.loc=y.loc):=by
 unfold eZ;simp only[Th.mk.injEq]
 constructor
 ·rintro⟨a,b,c⟩;exact⟨a.symm,b.symm,c.symm⟩
 ·rintro⟨a,b,c⟩;exact⟨a.symm,b.symm,c.symm⟩
end Go.Proofs.YtkbbgjloifmmbaaGreatDoor
namespace Go.Proofs.YtkbbgjloifmmbaaGreatDoor
open _root_.Go.Proofs.Tryz
open _root_.List renaming getElem?_eq_getElem->amK,getElem?_eq_some_iff->ano,mem_of_getElem?->aou,getElem_map->ap8,getElem_drop->ap9,pairwise_iff_getElem->aqa,length_map->ao3,mem_iff_getElem->aqc,any_eq_true->apW,all_eq_true->anq
open _root_.Nat renaming lt_succ_iff_lt_or_eq->an5,not_lt_zero->aoe
open _root_.Bool renaming and_eq_true->am6,and_false->aqb
open Go.RowKit Go.Sort
theorem BS{l:Tx}{b:Bool}(h:decide (l=[])=b):((tx l).toList==([]:List UInt8))=b/\(tx l).toList.isEmpty=b:=by
 rw[aW,<-h];cases l<;>simp
theorem abu{af:Int}{n:Nat}{x:aF}(h:x.thread= -1):eT af n x=(az x.loc&&(decide (x.au=0)&&(decide (x.aE=[])&&aY x.n))):=by unfold eT;rw[if_pos h]
theorem Ic{af:Int}{n:Nat}{x:aF}(h:x.thread≠ -1)(h2:x.thread<0\/(n:Int)<=x.thread\/x.loc≠[]):eT af n x=false:=by unfold eT;rw[if_neg h,if_pos h2]
theorem Pp{af:Int}{n:Nat}{x:aF}(h:x.thread≠ -1)(h2: ¬(x.thread<0\/(n:Int)<=x.thread\/x.loc≠[]))(h3:if af=2 then x.au<1\/31<x.au else x.au<0\/14<x.au):eT af n x=false:=by unfold eT;rw[if_neg h,if_neg h2,if_pos h3]
theorem Po{af:Int}{n:Nat}{x:aF}(h:x.thread≠ -1)(h2: ¬(x.thread<0\/(n:Int)<=x.thread\/x.loc≠[]))(h3: ¬(if af=2 then x.au<1\/31<x.au else x.au<0\/14<x.au)):eT af n x=if x.aE≠[]then az x.aE&&decide (x.n=0)else aY x.n:=by unfold eT;rw[if_neg h,if_neg h2,if_neg h3]
theorem abd(t:ak)(x:aF)(h1:x.loc.length<=9223372036854775807)(h2:x.aE.length<=9223372036854775807)(hn:t.code.length<=1000)(w:World):
 Calls prog 141 #[vT t,k8 x] w (ax w (.bool (eT t.af t.code.length x))):=by
 have B:=dD (al w (bC t)) (eK x);obtain⟨thread,au,loc,aE,n⟩:=x;simp only at h1 h2;obtain⟨b1,dM⟩: ∃b,az loc=b:=⟨_,rfl⟩;obtain⟨b2,dH⟩: ∃b,az aE=b:=⟨_,rfl⟩;obtain⟨b3,gi⟩: ∃b,aY n=b:=⟨_,rfl⟩;obtain⟨b4,jT⟩: ∃b,decide (loc=[])=b:=⟨_,rfl⟩;obtain⟨b5,jU⟩: ∃b,decide (aE=[])=b:=⟨_,rfl⟩;have NL:=hid (show ∀w,Calls prog 225 #[.string (tx loc)] w fun e w'=>e= .returned (.bool b1)/\w=w' from fun w=>dM▸Pj loc h1 w);have NV:=hid (show ∀w,Calls prog 225 #[.string (tx aE)] w fun e w'=>e= .returned (.bool b2)/\w=w' from fun w=>dH▸Pj aE h2 w);have NN:=hid (show ∀w,Calls prog 226 #[.int .i64 n] w fun e w'=>e= .returned (.bool b3)/\w=w' from fun w=>gi▸abg n w);obtain⟨zl,WT⟩:=BS jT;obtain⟨zv,WU⟩:=BS jU;have HL:=hid jT;have HV:=hid jU;have HB:=hid (And.intro dM (And.intro dH gi));obtain⟨N,hN⟩: ∃N,t.code.length=N:=⟨_,rfl⟩;obtain⟨ar,har⟩: ∃ar,t.af=ar:=⟨_,rfl⟩;rw[hN]at hn;have HN:=hid hN;clear dM dH gi jT jU h1 h2
 by_cases ht:thread= -1
 ·subst ht
  have E:=hid (abu (af:=t.af) (n:=t.code.length) (x:=⟨-1,au,loc,aE,n⟩) rfl)
  by_cases hr:au=0
  ·subst hr
   have E2:=hid (E.out.trans (show _=(b1&&(b5&&b3)) by simp only[HB.out.1,HB.out.2.2,HV.out,decide_true,Bool.true_and]));clear hN har;cases b1<;>cases b5<;>cases b3
   all_goals
    go_in
    go_wp2_with (first|(go_at_call 225;refine(NL.out _).mono ?_;rintro e w1 ⟨rfl,rfl⟩)|(go_at_call 226;refine(NN.out _).mono ?_;rintro e w1 ⟨rfl,rfl⟩))
    go_ret;exact⟨aJ ((show _=_ from by first|rfl|simp).trans E2.out.symm),aN⟩
  ·have zr:(au==0)=false:=by simpa using hr
   have E2:=hid (E.out.trans (show _=false by simp only[decide_eq_false hr,Bool.false_and,aqb]));clear hN har hr;cases b1
   all_goals
    go_in
    go_wp2_with (first|(go_at_call 225;refine(NL.out _).mono ?_;rintro e w1 ⟨rfl,rfl⟩)|(go_at_call 226;refine(NN.out _).mono ?_;rintro e w1 ⟨rfl,rfl⟩))
    go_ret;exact⟨aJ ((show _=_ from by first|rfl|simp).trans E2.out.symm),aN⟩
 ·have zt:(thread== -1)=false:=by simpa using ht
  by_cases h0:thread<0
  ·have E:=hid (Ic (af:=t.af) (n:=t.code.length) (x:=⟨thread,au,loc,aE,n⟩) ht (.inl h0))
   clear hN har ht;go_in
   go_wp2_with (first|(go_at_call 225;refine(NL.out _).mono ?_;rintro e w1 ⟨rfl,rfl⟩)|(go_at_call 226;refine(NN.out _).mono ?_;rintro e w1 ⟨rfl,rfl⟩))
   go_ret;exact⟨aJ (E.out.symm),aN⟩
  have h0':0<=thread:=by omega
  by_cases hc:(N:Int)<=thread
  ·have E:=hid (Ic (af:=t.af) (n:=t.code.length) (x:=⟨thread,au,loc,aE,n⟩) ht (.inr (.inl (by rw[hN];exact hc))))
   rw[<-hN]at hc;clear hN har ht;go_in
   go_wp2_with (first|(go_at_call 225;refine(NL.out _).mono ?_;rintro e w1 ⟨rfl,rfl⟩)|(go_at_call 226;refine(NN.out _).mono ?_;rintro e w1 ⟨rfl,rfl⟩))
   go_ret;exact⟨aJ (E.out.symm),aN⟩
  have hc':thread<t.code.length:=by omega
  cases b4 with
  | false=>
    have E:=hid (Ic (af:=t.af) (n:=t.code.length) (x:=⟨thread,au,loc,aE,n⟩) ht (.inr (.inr (by simpa using HL.out))));clear hN har ht hc;go_in
    go_wp2_with (first|(go_at_call 225;refine(NL.out _).mono ?_;rintro e w1 ⟨rfl,rfl⟩)|(go_at_call 226;refine(NN.out _).mono ?_;rintro e w1 ⟨rfl,rfl⟩))
    go_ret;exact⟨aJ (E.out.symm),aN⟩
  | true=>
    have hnot: ¬(thread<0\/(t.code.length:Int)<=thread\/loc≠[]):=by
     have:=HL.out;simp at this;subst this;simp;omega
    have HA:=hid har
    by_cases ha:ar=2
    ·have za:(t.af==2)=true:=by rw[har,ha];rfl
     by_cases hr:au<1\/31<au
     ·have E:=hid (Pp (af:=t.af) (n:=t.code.length) (x:=⟨thread,au,loc,aE,n⟩) ht hnot (by rw[if_pos (har.trans ha)];exact hr))
      clear hN har ht hc hnot ha;rcases hr with hr|hr
      all_goals
       go_in
       go_wp2_with (first|(go_at_call 225;refine(NV.out _).mono ?_;rintro e w1 ⟨rfl,rfl⟩)|(go_at_call 226;refine(NN.out _).mono ?_;rintro e w1 ⟨rfl,rfl⟩))
       go_ret;exact⟨aJ (E.out.symm),aN⟩
     ·have r1:1<=au:=by omega
      have r2:au<=31:=by omega
      have E:=hid (Po (af:=t.af) (n:=t.code.length) (x:=⟨thread,au,loc,aE,n⟩) ht hnot (by rw[if_pos (har.trans ha)];exact hr));clear hN har ht hc hnot ha hr;cases b5 with
      | true=>
        have E2:=hid (E.out.trans (show _=b3 by rw[if_neg (by simpa using HV.out)];exact HB.out.2.2));go_in
        go_wp2_with (first|(go_at_call 225;refine(NV.out _).mono ?_;rintro e w1 ⟨rfl,rfl⟩)|(go_at_call 226;refine(NN.out _).mono ?_;rintro e w1 ⟨rfl,rfl⟩))
        go_ret;exact⟨aJ ((show _=_ from by first|rfl|simp).trans E2.out.symm),aN⟩
      | false=>
        by_cases hn0:n=0
        ·subst hn0
         have E2:=hid (E.out.trans (show _=b2 by rw[if_pos (by simpa using HV.out)];simp only[HB.out.2.1,decide_true,Bool.and_true]));cases b2
         all_goals
          go_in
          go_wp2_with (first|(go_at_call 225;refine(NV.out _).mono ?_;rintro e w1 ⟨rfl,rfl⟩)|(go_at_call 226;refine(NN.out _).mono ?_;rintro e w1 ⟨rfl,rfl⟩))
          go_ret;exact⟨aJ ((show _=_ from by first|rfl|simp).trans E2.out.symm),aN⟩
        ·have zn:(n==0)=false:=by simpa using hn0
         have E2:=hid (E.out.trans (show _=false by rw[if_pos (by simpa using HV.out)];simp only[decide_eq_false hn0,aqb]));clear hn0;cases b2
         all_goals
          go_in
          go_wp2_with (first|(go_at_call 225;refine(NV.out _).mono ?_;rintro e w1 ⟨rfl,rfl⟩)|(go_at_call 226;refine(NN.out _).mono ?_;rintro e w1 ⟨rfl,rfl⟩))
          go_ret;exact⟨aJ ((show _=_ from by first|rfl|simp).trans E2.out.symm),aN⟩
    ·have za:(t.af==2)=false:=by rw[har];simpa using ha
     by_cases hr:au<0\/14<au
     ·have E:=hid (Pp (af:=t.af) (n:=t.code.length) (x:=⟨thread,au,loc,aE,n⟩) ht hnot (by rw[if_neg (by rw[har];exact ha)];exact hr))
      clear hN har ht hc hnot ha;rcases hr with hr|hr
      all_goals
       go_in
       go_wp2_with (first|(go_at_call 225;refine(NV.out _).mono ?_;rintro e w1 ⟨rfl,rfl⟩)|(go_at_call 226;refine(NN.out _).mono ?_;rintro e w1 ⟨rfl,rfl⟩))
       go_ret;exact⟨aJ (E.out.symm),aN⟩
     ·have r1:0<=au:=by omega
      have r2:au<=14:=by omega
      have E:=hid (Po (af:=t.af) (n:=t.code.length) (x:=⟨thread,au,loc,aE,n⟩) ht hnot (by rw[if_neg (by rw[har];exact ha)];exact hr));clear hN har ht hc hnot ha hr;cases b5 with
      | true=>
        have E2:=hid (E.out.trans (show _=b3 by rw[if_neg (by simpa using HV.out)];exact HB.out.2.2));go_in
        go_wp2_with (first|(go_at_call 225;refine(NV.out _).mono ?_;rintro e w1 ⟨rfl,rfl⟩)|(go_at_call 226;refine(NN.out _).mono ?_;rintro e w1 ⟨rfl,rfl⟩))
        go_ret;exact⟨aJ ((show _=_ from by first|rfl|simp).trans E2.out.symm),aN⟩
      | false=>
        by_cases hn0:n=0
        ·subst hn0
         have E2:=hid (E.out.trans (show _=b2 by rw[if_pos (by simpa using HV.out)];simp only[HB.out.2.1,decide_true,Bool.and_true]));cases b2
         all_goals
          go_in
          go_wp2_with (first|(go_at_call 225;refine(NV.out _).mono ?_;rintro e w1 ⟨rfl,rfl⟩)|(go_at_call 226;refine(NN.out _).mono ?_;rintro e w1 ⟨rfl,rfl⟩))
          go_ret;exact⟨aJ ((show _=_ from by first|rfl|simp).trans E2.out.symm),aN⟩
        ·have zn:(n==0)=false:=by simpa using hn0
         have E2:=hid (E.out.trans (show _=false by rw[if_pos (by simpa using HV.out)];simp only[decide_eq_false hn0,aqb]));clear hn0;cases b2
         all_goals
          go_in
          go_wp2_with (first|(go_at_call 225;refine(NV.out _).mono ?_;rintro e w1 ⟨rfl,rfl⟩)|(go_at_call 226;refine(NN.out _).mono ?_;rintro e w1 ⟨rfl,rfl⟩))
          go_ret;exact⟨aJ ((show _=_ from by first|rfl|simp).trans E2.out.symm),aN⟩
end Go.Proofs.YtkbbgjloifmmbaaGreatDoor
