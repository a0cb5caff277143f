/- What ReadPiecesP leans on, part 35. -/
import Derived.Test.YtkbbgjloifmmbaaGreatDoorRp34
set_option linter.unusedVariables false
set_option maxRecDepth 100000
set_option maxHeartbeats 6400000
namespace Go.Proofs.YtkbbgjloifmmbaaGreatDoor
open Go.RowKit Go.Sort
theorem tw_take{p:UInt8->Bool}{l:Tx}{n:Nat}(h:(l.takeWhile p).length=n):l.takeWhile p=l.take n/\l.dropWhile p=l.drop n:=by
 have e:=List.takeWhile_append_dropWhile (p:=p) (l:=l)
 constructor
 ·conv=>rhs;rw[<-e,<-h]
  rw[List.take_left]
 ·conv=>rhs;rw[<-e,<-h]
  rw[List.drop_left]
theorem words_word{s:Tx}{k q:Nat}{c:UInt8}(hc:s[k]? =some c)(hi:inW c=true)(h5:((s.drop (k+1)).takeWhile inW).length=q-(k+1))(hkq:k+1<=q):wordsX (s.drop k)=(s.take q).drop k::wordsX (s.drop q):=by
 obtain⟨hlt,rfl⟩:=List.getElem?_eq_some_iff.1 hc;obtain⟨e1,e2⟩:=tw_take h5;rw[List.drop_eq_getElem_cons hlt,words_in _ hi,e1,e2,List.drop_drop,show k+1+(q-(k+1))=q by omega]
 congr 1
 have e3:(s.take q).drop k=(s.drop k).take (q-k):=by rw[List.drop_take]
 rw[e3,List.drop_eq_getElem_cons hlt,show q-k=(q-(k+1))+1 by omega,List.take_succ_cons]
theorem words_sg{s:Tx}{k:Nat}{c:UInt8}(hc:s[k]? =some c)(hi:sgX c=true):wordsX (s.drop k)=(s.take (k+1)).drop k::wordsX (s.drop (k+1)):=by
 obtain⟨hlt,rfl⟩:=List.getElem?_eq_some_iff.1 hc;have e3:(s.take (k+1)).drop k=(s.drop k).take 1:=by rw[List.drop_take];congr 1;omega
 rw[e3,List.drop_eq_getElem_cons hlt,words_sign _ hi];rfl
theorem words_bl{s:Tx}{k:Nat}{c:UInt8}(hc:s[k]? =some c)(hi:blankC c=true):wordsX (s.drop k)=wordsX (s.drop (k+1)):=by
 obtain⟨hlt,rfl⟩:=List.getElem?_eq_some_iff.1 hc;rw[List.drop_eq_getElem_cons hlt,words_blank _ hi]
theorem inW_facts{x:UInt8}(h:inW x=true):blankC x=false/\((x.toNat:Int)==91)=false/\((x.toNat:Int)==93)=false/\((x.toNat:Int)==44)=false:=by
 unfold inW sgX at h;have a':((x.toNat:Int)==91)=(x==91):=byte_eq (x:=x) 91 (by decide);have b':((x.toNat:Int)==93)=(x==93):=byte_eq (x:=x) 93 (by decide);have c':((x.toNat:Int)==44)=(x==44):=byte_eq (x:=x) 44 (by decide);rw[a',b',c']
 revert h
 cases blankC x<;>cases(x==91)<;>cases(x==93)<;>cases(x==44)<;>simp
theorem inW_not{x:UInt8}(h:inW x=false):blankC x=true\/(blankC x=false/\((x.toNat:Int)==91)=true)\/(blankC x=false/\((x.toNat:Int)==91)=false/\((x.toNat:Int)==93)=true)\/(blankC x=false/\((x.toNat:Int)==91)=false/\((x.toNat:Int)==93)=false/\((x.toNat:Int)==44)=true):=by
 unfold inW sgX at h;have a':((x.toNat:Int)==91)=(x==91):=byte_eq (x:=x) 91 (by decide);have b':((x.toNat:Int)==93)=(x==93):=byte_eq (x:=x) 93 (by decide);have c':((x.toNat:Int)==44)=(x==44):=byte_eq (x:=x) 44 (by decide);rw[a',b',c']
 revert h
 cases blankC x<;>cases(x==91)<;>cases(x==93)<;>cases(x==44)<;>simp
theorem sg_of{x:UInt8}(hb:blankC x=false)(h:inW x=false):sgX x=true:=by
 unfold inW at h
 revert h
 rw[hb];cases sgX x<;>simp
theorem byte_ne{x:UInt8}{n:Int}(h:((x.toNat:Int)==n)=false):((x.toNat:Int) != n)=true:=by simpa using h
theorem byte_ee{x:UInt8}{n:Int}(h:((x.toNat:Int)==n)=true):((x.toNat:Int) != n)=false:=by simpa using h
def RetWd(s:Tx)(w:World)(e:Ending)(w':World):Prop:= ∃a c,e= .returned (.slice a (wordsX s).length c)/\OwnSp w' w.heap.size a (wordsX s).length c (wordsX s)/\Below w.heap.size w w'
theorem r09Words(s:Tx)(hl:s.length<=262144)(w:World):Calls Tryz.prog 103 #[.string (tx s)] w (RetWd s w):=by
 obtain⟨n,hn⟩: ∃n,(tx s).size=n:=⟨_,rfl⟩;have HN:=hid (show n=s.length by rw[<-hn,tx_size]);have hnb:n<=262144:=by rw[HN.out];exact hl
 obtain⟨T,hT⟩: ∃T,wordsX s=T:=⟨_,rfl⟩;have HT:=hid (show wordsX (s.drop 0)=T by rw[List.drop_zero];exact hT);unfold RetWd;rw[hT];clear hl hT;go_enter Tryz.func103,Tryz.ntmps103;go_wp2_with fail
 go_loopw [3,4] (fun o i wr=> ∃(k:Nat) (a:Option Addr) (c:Nat) (out:List Tx),k<=n/\i= .int .i64 k/\o= .slice a out.length c/\out.length<=k/\OwnSp wr w.heap.size a out.length c out/\Hid (T=out++wordsX (s.drop k))/\Below w.heap.size w wr) (fun o i _=>n-(intOf i).toNat)
 case atStart=>exact⟨0,none,0,[],by omega,rfl,rfl,by simp,Own.nil _ _ _ _,HT.out.symm,(by repeat(first|with_reducible assumption|with_reducible exact Below.refl _ _|with_reducible refine Below.setCell ?_ (Nat.le_refl _) _|with_reducible refine Below.setCell ?_ (by simp) _|with_reducible refine Below.alloc ?_ (Nat.le_refl _) _|with_reducible refine Below.alloc ?_ (by simp) _|with_reducible refine Below.alloc ?_ (by simp<;>omega) _|with_reducible refine Below.drew ?_))⟩
 case round=>
  obtain⟨k,a,c,out,hk,rfl,rfl,ho,hO,HO,E⟩:=hrel
  by_cases hlt:k<n
  ·obtain⟨x,hx⟩: ∃x,s[k]? =some x:=⟨_,List.getElem?_eq_getElem (by have:=HN.out;omega)⟩
   have ix:=run_ix s k x hx;have zk:decide ((k:Int)<(n:Int))=true:=by simp;omega
   cases hb:blankC x with
   | true=>
     have HB:=hid hb;have HO2:=hid (HO.out.trans (by rw[words_bl hx hb]));clear hb hx
     go_wp2_with (go_at_call 186;refine(r09Blank x _).mono ?_;rintro e w' ⟨rfl,rfl⟩;rw[HB.out])
     go_roundw
     case rel=>exact⟨k+1,a,c,out,by omega,by go_num,rfl,by omega,hO,HO2,E⟩
     case measure=>simp[intOf];omega
   | false=>
     have HB:=hid hb;cases hi:inW x with
     | true=>
       obtain⟨-, y1,y2,y3⟩:=inW_facts hi;have m1:=byte_ne y1;have m2:=byte_ne y2;have m3:=byte_ne y3;obtain⟨q,q1,q2,q3,q4,q5⟩:=run_to inW s _ (k+1) (Nat.le_refl _) (by have:=HN.out;omega);have sl:=run_strsl s k q (by omega) q2;obtain⟨u,hu⟩: ∃u,(s.take q).drop k=u:=⟨_,rfl⟩;have HO2:=hid (show T=(out++[u])++wordsX (s.drop q) by rw[HO.out,words_word hx hi q5 q1,hu];simp);rw[hu]at sl;have HQ:=hid q3;have HQN:=hid q4;have hqn:q<=n:=by rw[HN.out];exact q2
       clear hb hx hi q2 q3 q4 q5 hu
       go_wp2_with (go_at_call 186;refine(r09Blank x _).mono ?_;rintro e w' ⟨rfl,rfl⟩;rw[HB.out])
       go_loop [6] (fun y=> ∃k2:Nat,k+1<=k2/\k2<=q/\y= .int .i64 k2) (fun y=>q-(intOf y).toNat)
       case atStart=>exact⟨k+1,Nat.le_refl _,q1,by go_num⟩
       case round=>
        obtain⟨k2,hk1,hk2,rfl⟩:=hrel
        by_cases hlt2:k2<q
        ·obtain⟨y,hy,hyp⟩:=HQ.out k2 hk1 hlt2
         have iy:=run_ix s k2 y hy;have zk2:decide ((k2:Int)<(n:Int))=true:=by simp;omega
         obtain⟨hyb,v1,v2,v3⟩:=inW_facts hyp;have n1:=byte_ne v1;have n2:=byte_ne v2;have n3:=byte_ne v3;have HY:=hid hyb;clear hy hyp hyb
         go_wp2_with (go_at_call 186;refine(r09Blank y _).mono ?_;rintro e w' ⟨rfl,rfl⟩;rw[HY.out])
         go_round
         case rel=>exact⟨k2+1,by omega,by omega,by go_num⟩
         case measure=>simp[intOf];omega
        ·obtain rfl:k2=q:=by omega
         by_cases hq2:k2<n
         ·obtain⟨y,hy⟩: ∃y,s[k2]? =some y:=⟨_,List.getElem?_eq_getElem (by have:=HN.out;omega)⟩
          have hyp:=HQN.out y hy;have iy:=run_ix s k2 y hy;have zk2:decide ((k2:Int)<(n:Int))=true:=by simp;omega
          clear hy;rcases inW_not hyp with h|⟨h,v1⟩|⟨h,v1,v2⟩|⟨h,v1,v2,v3⟩
          ·have HY:=hid h
           clear h hyp
           go_wp2_with (first|(go_at_call 186;refine(r09Blank y _).mono ?_;rintro e w' ⟨rfl,rfl⟩;rw[HY.out])|(at_builtin;go_loud(refine wpList_app1 txl (.tmp 63) (.tmp 68) rfl rfl rfl hO rfl rfl (by intro u hu;simp at hu;subst hu;rfl) E E.size (by omega) (by unfold maxLen;omega) ?_)))
           intro a' c' w2 hO' hG hB';have hO2:OwnSp w2 w.heap.size a' (out++[u]).length c' (out++[u]):=by simpa[OwnSp]using hO'
           clear hO' hG;go_wp2_with fail
           go_roundw
           case rel=>exact⟨k2,a',c',out++[u],by omega,by go_num,by simp,by simp;omega,hO2,HO2,hB'⟩
           case measure=>simp[intOf];omega
          ·have HY:=hid h
           clear h hyp;have n1:=byte_ee v1
           go_wp2_with (first|(go_at_call 186;refine(r09Blank y _).mono ?_;rintro e w' ⟨rfl,rfl⟩;rw[HY.out])|(at_builtin;go_loud(refine wpList_app1 txl (.tmp 63) (.tmp 68) rfl rfl rfl hO rfl rfl (by intro u hu;simp at hu;subst hu;rfl) E E.size (by omega) (by unfold maxLen;omega) ?_)))
           intro a' c' w2 hO' hG hB';have hO2:OwnSp w2 w.heap.size a' (out++[u]).length c' (out++[u]):=by simpa[OwnSp]using hO'
           clear hO' hG;go_wp2_with fail
           go_roundw
           case rel=>exact⟨k2,a',c',out++[u],by omega,by go_num,by simp,by simp;omega,hO2,HO2,hB'⟩
           case measure=>simp[intOf];omega
          ·have HY:=hid h
           clear h hyp;have n1:=byte_ne v1;have n2:=byte_ee v2
           go_wp2_with (first|(go_at_call 186;refine(r09Blank y _).mono ?_;rintro e w' ⟨rfl,rfl⟩;rw[HY.out])|(at_builtin;go_loud(refine wpList_app1 txl (.tmp 63) (.tmp 68) rfl rfl rfl hO rfl rfl (by intro u hu;simp at hu;subst hu;rfl) E E.size (by omega) (by unfold maxLen;omega) ?_)))
           intro a' c' w2 hO' hG hB';have hO2:OwnSp w2 w.heap.size a' (out++[u]).length c' (out++[u]):=by simpa[OwnSp]using hO'
           clear hO' hG;go_wp2_with fail
           go_roundw
           case rel=>exact⟨k2,a',c',out++[u],by omega,by go_num,by simp,by simp;omega,hO2,HO2,hB'⟩
           case measure=>simp[intOf];omega
          ·have HY:=hid h
           clear h hyp;have n1:=byte_ne v1;have n2:=byte_ne v2;have n3:=byte_ee v3
           go_wp2_with (first|(go_at_call 186;refine(r09Blank y _).mono ?_;rintro e w' ⟨rfl,rfl⟩;rw[HY.out])|(at_builtin;go_loud(refine wpList_app1 txl (.tmp 63) (.tmp 68) rfl rfl rfl hO rfl rfl (by intro u hu;simp at hu;subst hu;rfl) E E.size (by omega) (by unfold maxLen;omega) ?_)))
           intro a' c' w2 hO' hG hB';have hO2:OwnSp w2 w.heap.size a' (out++[u]).length c' (out++[u]):=by simpa[OwnSp]using hO'
           clear hO' hG;go_wp2_with fail
           go_roundw
           case rel=>exact⟨k2,a',c',out++[u],by omega,by go_num,by simp,by simp;omega,hO2,HO2,hB'⟩
           case measure=>simp[intOf];omega
         ·have zk2:decide ((k2:Int)<(n:Int))=false:=by simp;omega
          go_wp2_with (at_builtin;go_loud(refine wpList_app1 txl (.tmp 63) (.tmp 68) rfl rfl rfl hO rfl rfl (by intro u hu;simp at hu;subst hu;rfl) E E.size (by omega) (by unfold maxLen;omega) ?_))
          intro a' c' w2 hO' hG hB';have hO2:OwnSp w2 w.heap.size a' (out++[u]).length c' (out++[u]):=by simpa[OwnSp]using hO'
          clear hO' hG;go_wp2_with fail
          go_roundw
          case rel=>exact⟨k2,a',c',out++[u],by omega,by go_num,by simp,by simp;omega,hO2,HO2,hB'⟩
          case measure=>simp[intOf];omega
     | false=>
       have hs:=sg_of hb hi;have sl:=run_strsl s k (k+1) (by omega) (by have:=HN.out;omega);rw[show((k+1:Nat):Int)=(k:Int)+1 by omega]at sl;obtain⟨u,hu⟩: ∃u,(s.take (k+1)).drop k=u:=⟨_,rfl⟩;have HO2:=hid (show T=(out++[u])++wordsX (s.drop (k+1)) by rw[HO.out,words_sg hx hs,hu];simp);rw[hu]at sl;rcases inW_not hi with h|⟨h,v1⟩|⟨h,v1,v2⟩|⟨h,v1,v2,v3⟩
       ·rw[hb]at h;cases h
       ·clear h hx hb hi hs hu
        have n1:=byte_ee v1
        go_wp2_with (go_at_call 186;refine(r09Blank x _).mono ?_;rintro e w' ⟨rfl,rfl⟩;rw[HB.out])
        go_loop [6] (fun y=>y= .int .i64 ((k:Int)+1)) (fun _=>0)
        case atStart=>go_num
        case round=>
         subst hrel
         go_wp2_with (at_builtin;go_loud(refine wpList_app1 txl (.tmp 63) (.tmp 68) rfl rfl rfl hO rfl rfl (by intro u hu;simp at hu;subst hu;rfl) E E.size (by omega) (by unfold maxLen;omega) ?_))
         intro a' c' w2 hO' hG hB';have hO2:OwnSp w2 w.heap.size a' (out++[u]).length c' (out++[u]):=by simpa[OwnSp]using hO'
         clear hO' hG;go_wp2_with fail
         go_roundw
         case rel=>exact⟨k+1,a',c',out++[u],by omega,by go_num,by simp,by simp;omega,hO2,HO2,hB'⟩
         case measure=>simp[intOf];omega
       ·clear h hx hb hi hs hu
        have n1:=byte_ne v1;have n2:=byte_ee v2
        go_wp2_with (go_at_call 186;refine(r09Blank x _).mono ?_;rintro e w' ⟨rfl,rfl⟩;rw[HB.out])
        go_loop [6] (fun y=>y= .int .i64 ((k:Int)+1)) (fun _=>0)
        case atStart=>go_num
        case round=>
         subst hrel
         go_wp2_with (at_builtin;go_loud(refine wpList_app1 txl (.tmp 63) (.tmp 68) rfl rfl rfl hO rfl rfl (by intro u hu;simp at hu;subst hu;rfl) E E.size (by omega) (by unfold maxLen;omega) ?_))
         intro a' c' w2 hO' hG hB';have hO2:OwnSp w2 w.heap.size a' (out++[u]).length c' (out++[u]):=by simpa[OwnSp]using hO'
         clear hO' hG;go_wp2_with fail
         go_roundw
         case rel=>exact⟨k+1,a',c',out++[u],by omega,by go_num,by simp,by simp;omega,hO2,HO2,hB'⟩
         case measure=>simp[intOf];omega
       ·clear h hx hb hi hs hu
        have n1:=byte_ne v1;have n2:=byte_ne v2;have n3:=byte_ee v3
        go_wp2_with (go_at_call 186;refine(r09Blank x _).mono ?_;rintro e w' ⟨rfl,rfl⟩;rw[HB.out])
        go_loop [6] (fun y=>y= .int .i64 ((k:Int)+1)) (fun _=>0)
        case atStart=>go_num
        case round=>
         subst hrel
         go_wp2_with (at_builtin;go_loud(refine wpList_app1 txl (.tmp 63) (.tmp 68) rfl rfl rfl hO rfl rfl (by intro u hu;simp at hu;subst hu;rfl) E E.size (by omega) (by unfold maxLen;omega) ?_))
         intro a' c' w2 hO' hG hB';have hO2:OwnSp w2 w.heap.size a' (out++[u]).length c' (out++[u]):=by simpa[OwnSp]using hO'
         clear hO' hG;go_wp2_with fail
         go_roundw
         case rel=>exact⟨k+1,a',c',out++[u],by omega,by go_num,by simp,by simp;omega,hO2,HO2,hB'⟩
         case measure=>simp[intOf];omega
  ·obtain rfl:k=n:=by omega
   have HF:=hid (show T=out by
    rw[HO.out,show s.drop k=[]from List.drop_eq_nil_of_le (by have:=HN.out;omega)];simp[wordsX,wA_nil,flushX])
   have zk:decide ((k:Int)<(k:Int))=false:=by simp
   go_wp2_with fail;go_ret;have hf:=HF.out;subst hf;exact⟨a,c,rfl,hO,E⟩
end Go.Proofs.YtkbbgjloifmmbaaGreatDoor
