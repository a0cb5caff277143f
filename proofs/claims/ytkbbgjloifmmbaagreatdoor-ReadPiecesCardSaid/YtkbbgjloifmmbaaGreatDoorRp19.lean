/- What ReadPiecesP leans on, part 19. -/
import Derived.Test.YtkbbgjloifmmbaaGreatDoorRp18
import Derived.Test.YtkbbgjloifmmbaaGreatDoorRp14
set_option linter.unusedVariables false
set_option maxRecDepth 100000
set_option maxHeartbeats 6400000
namespace Go.Proofs.YtkbbgjloifmmbaaGreatDoor
def kindT:Tx->Nat
 |[]=>0
 |c::r=>if letterC c then 1 else if digitC c||(c==45&&decide (0<r.length))then 2 else 3
def nextT(N:Nat):List Tok->Nat
 |[]=>N
 |t::_=>t.2+t.1.length
def Lx(S:Tx)(l:List Tok):Prop:= ∃i,i<=S.length/\lex i (S.drop i)=l
theorem kind_cons(c:UInt8)(r:Tx):kindT (c::r)=if letterC c then 1 else if digitC c||(c==45&&decide (0<r.length))then 2 else 3:=rfl
theorem long_kind(c:UInt8)(r:Tx):kindT ((c::r).take (longT (c::r)))=if letterC c then 1 else if digitC c||(c==45&&(r.head?.any digitC))then 2 else 3:=by
 rw[longT_eq]
 by_cases h1:letterC c=true
 ·rw[if_pos h1,if_pos h1,Nat.add_comm,List.take_succ_cons,kind_cons,if_pos h1]
 ·have h1:letterC c=false:=by simpa using h1
  cases h2:digitC c with
  |true=>simp only[h1,h2,Bool.true_or,if_true,Bool.false_eq_true,if_false,Nat.add_comm 1,List.take_succ_cons,kind_cons]
  | false=>
    by_cases h3:c=45
    ·subst h3
     cases r with
     |nil=>decide+kernel
     | cons d r=>
       cases h4:digitC d with
       | true=>
         simp only[h1,h2,h4,List.head?_cons,Option.any_some,Bool.false_or,beq_self_eq_true,Bool.and_self,if_true,Bool.false_eq_true,if_false,Nat.add_comm 1,List.take_succ_cons,kind_cons,List.takeWhile_cons,List.length_cons];simp
       | false=>
         simp only[h1,h4,List.head?_cons,Option.any_some,Bool.false_or,Bool.and_false,Bool.false_eq_true,if_false];rw[if_neg (by simp)];rw[show(1:Nat)=0+1 by rfl,List.take_succ_cons,List.take_zero]
         decide
    ·have e1:(c==45)=false:=by simpa using h3
     have key: ∀u,kindT (c::u)=3:=fun u=>by
      rw[kind_cons];simp only[h1,h2,e1,Bool.false_or,Bool.false_and,Bool.false_eq_true,if_false]
     simp only[h1,e1,Bool.false_or,Bool.false_and,Bool.false_eq_true,if_false];split
     ·rw[List.take_succ_cons];exact key _
     ·rw[List.take_succ_cons];exact key _
theorem lex_facts(S:Tx): ∀(n i:Nat),S.length-i<=n->i<=S.length-> ∀t r,lex i (S.drop i)=t::r->i<=t.2/\1<=t.1.length/\t.2+t.1.length<=S.length/\t.1=(S.take (t.2+t.1.length)).drop t.2/\lex (t.2+t.1.length) (S.drop (t.2+t.1.length))=r
 | n,i,h,hi,t,r,e=>by
   rcases Nat.lt_or_ge i S.length with hlt|hge
   ·have hs:=lex_step (List.getElem?_eq_getElem hlt)
    rw[e]at hs;cases hb:blankC S[i]with
    | true=>
      rw[hb]at hs;cases n with
      |zero=>omega
      | succ n=>
        have:=lex_facts S n (i+1) (by omega) (by omega) t r hs.symm;exact⟨by omega,this.2⟩
    | false=>
      rw[hb]at hs;simp only[Bool.false_eq_true,if_false]at hs
      injection hs with h1 h2
      have hd:S.drop i=S[i]::S.drop (i+1):=List.drop_eq_getElem_cons hlt;have l1:1<=longT (S.drop i):=by rw[hd];exact longT_pos _ _
      have l2:longT (S.drop i)<=S.length-i:=by
       have:=longT_le S[i] (S.drop (i+1));rw[hd];rw[List.length_drop]at this;omega
      have hl:t.1.length=longT (S.drop i):=by rw[h1];simp;omega
      have h22:t.2=i:=by rw[h1]
      have h3:t.1=(S.take (t.2+t.1.length)).drop t.2:=by
       rw[h22,hl,h1,List.take_add,List.drop_append_of_le_length (by simp;omega)];simp
      exact⟨by omega,by omega,by omega,h3,by rw[h22,hl];exact h2.symm⟩
   ·have:S.drop i=[]:=List.drop_eq_nil_of_le hge
    rw[this,lex_nil]at e;cases e
section
variable {S:Tx} {l:List Tok}
theorem Lx.start(S:Tx):Lx S (lex 0 S):=⟨0,Nat.zero_le _,rfl⟩
theorem Lx.at(S:Tx){i:Nat}(h:i<=S.length):Lx S (lex i (S.drop i)):=⟨i,h,rfl⟩
theorem Lx.head{t:Tok}{r:List Tok}(h:Lx S (t::r)):1<=t.1.length/\t.2+t.1.length<=S.length:=by
 obtain⟨i,hi,e⟩:=h;obtain⟨-, a,b, -⟩:=lex_facts _ _ i (Nat.le_refl _) hi t r e;exact⟨a,b⟩
theorem Lx.next(h:Lx S l):nextT S.length l<=S.length/\lex (nextT S.length l) (S.drop (nextT S.length l))=l.tail:=by
 cases l with
 |nil=>exact⟨Nat.le_refl _,by show lex S.length (S.drop S.length)=[];rw[List.drop_length,lex_nil]⟩
 | cons t r=>
   obtain⟨i,hi,e⟩:=h;obtain⟨-, a,b,-, c⟩:=lex_facts _ _ i (Nat.le_refl _) hi t r e;exact⟨b,c⟩
theorem Lx.tail(h:Lx S l):Lx S l.tail:=⟨_,h.next.1,h.next.2⟩
theorem Lx.headS(h:Lx S l):(Go.Proofs.YtkbbgjloifmmbaaGreatDoor.headS l).length<=S.length:=by
 cases l with
 |nil=>exact Nat.zero_le _
 |cons t r=>have:=h.head;show t.1.length<=_;omega
theorem Lx.len(h:Lx S l):l.length<=S.length:=by
 obtain⟨i,hi,rfl⟩:=h;have:=lex_len _ i (S.drop i) (Nat.le_refl _);simp at this;omega
end
theorem kind_letter{c:UInt8}{r:Tx}(h:letterC c=true):kindT (c::r)=1:=by show(if letterC c then 1 else _)=1;rw[if_pos h]
theorem kind_name{u:Tx}(h:nameB u=true):kindT u=1:=by
 obtain⟨c,r,rfl,h2⟩:=name_first h;exact kind_letter h2
theorem kind_reg{arch:Int}{u:Tx}{n:Nat}(h:regOfA arch u=some n):kindT u=1:=by
 obtain⟨h1,rfl⟩:=regOfA_some h;have h3: ∀n:Fin 15,kindT (regX n.val)=1:=by decide+kernel
 have h2: ∀n:Fin 32,kindT (regT n.val)=1:=by decide+kernel
 unfold regA regsN at*;split
 ·rename_i e;rw[if_pos e]at h1;exact h3 ⟨n,by omega⟩
 ·rename_i e;rw[if_neg e]at h1;exact h2 ⟨n,by omega⟩
theorem kind_itoa(v:Int):kindT (Lib.itoa v)=2:=by
 have hd: ∀n:Nat,∃c r,Lib.decDigits n=c::r/\digitC c=true:=fun n=>by
  cases h:Lib.decDigits n with
  |nil=>have:=Lib.decDigits_length n;have h2:=Lib.nDigits_pos n;rw[h]at this;simp at this;omega
  |cons c r=>exact⟨c,r,rfl,digit_nat.2 (dec_digit n c (by rw[h];simp))⟩
 by_cases h0:0<=v
 ·obtain⟨u,rfl⟩: ∃u:Nat,v=(u:Int):=⟨v.toNat,by omega⟩
  rw[Lib.itoa_nonneg];obtain⟨c,r,e,h⟩:=hd u;rw[e,kind_cons,(digit_no h).2.1,h];rfl
 ·obtain⟨u,rfl,hu⟩: ∃u:Nat,v= -(u:Int)/\1<=u:=⟨v.natAbs,by omega,by omega⟩
  rw[Lib.itoa_neg u hu];obtain⟨c,r,e,h⟩:=hd u;rw[e,kind_cons,if_neg (by decide),if_pos (by simp)]
theorem kind_numR{u:Tx}{v:Int}(h:numR u=some v):kindT u=2:=by
 rw[(numR_iff.1 h).1];exact kind_itoa v
theorem lex_skip(S:Tx): ∀(n i:Nat),S.length-i<=n->i<=S.length-> ∃j,i<=j/\j<=S.length/\(∀k,i<=k->k<j-> ∃x,S[k]? =some x/\blankC x=true)/\(∀x,S[j]? =some x->blankC x=false)/\lex i (S.drop i)=lex j (S.drop j)
 | n,i,h,hi=>by
   rcases Nat.lt_or_ge i S.length with hlt|hge
   ·have hg:=List.getElem?_eq_getElem hlt
    have hs:=lex_step hg;cases hb:blankC S[i]with
    | true=>
      rw[hb]at hs;cases n with
      |zero=>omega
      | succ n=>
        obtain⟨j,h1,h2,h3,h4,h5⟩:=lex_skip S n (i+1) (by omega) (by omega);refine⟨j,by omega,h2,fun k hk hkj=>?_,h4,by rw[hs];exact h5⟩;rcases Nat.lt_or_ge i k with h|h
        ·exact h3 k (by omega) hkj
        ·have:k=i:=by omega
         subst this;exact⟨_,hg,hb⟩
    |false=>exact⟨i,Nat.le_refl _,hi,fun k h1 h2=>by omega,(fun x hx=>by rw[hg]at hx;cases hx;exact hb),rfl⟩
   ·exact⟨i,Nat.le_refl _,hi,fun k h1 h2=>by omega,(fun x hx=>by rw[List.getElem?_eq_none hge]at hx;cases hx),rfl⟩
theorem run_to(p:UInt8->Bool)(S:Tx): ∀(n a:Nat),S.length-a<=n->a<=S.length-> ∃q,a<=q/\q<=S.length/\(∀k,a<=k->k<q-> ∃x,S[k]? =some x/\p x=true)/\(∀x,S[q]? =some x->p x=false)/\((S.drop a).takeWhile p).length=q-a
 | n,i,h,hi=>by
   rcases Nat.lt_or_ge i S.length with hlt|hge
   ·have hg:=List.getElem?_eq_getElem hlt
    have hd:S.drop i=S[i]::S.drop (i+1):=List.drop_eq_getElem_cons hlt;cases hb:p S[i]with
    | true=>
      cases n with
      |zero=>omega
      | succ n=>
        obtain⟨j,h1,h2,h3,h4,h5⟩:=run_to p S n (i+1) (by omega) (by omega);refine⟨j,by omega,h2,fun k hk hkj=>?_,h4,by rw[hd,List.takeWhile_cons,if_pos hb,List.length_cons,h5];omega⟩;rcases Nat.lt_or_ge i k with h|h
        ·exact h3 k (by omega) hkj
        ·have:k=i:=by omega
         subst this;exact⟨_,hg,hb⟩
    |false=>exact⟨i,Nat.le_refl _,hi,fun k h1 h2=>by omega,(fun x hx=>by rw[hg]at hx;cases hx;exact hb),by rw[hd,List.takeWhile_cons,if_neg (by rw[hb];decide)];simp⟩
   ·exact⟨i,Nat.le_refl _,hi,fun k h1 h2=>by omega,(fun x hx=>by rw[List.getElem?_eq_none hge]at hx;cases hx),by rw[List.drop_eq_nil_of_le hge];simp⟩
def TokAt(S:Tx)(l:List Tok)(j k m:Nat):Prop:=stopAt S.length l=j/\nextT S.length l=m/\headS l=(S.take m).drop j/\kindT (headS l)=k
theorem tok_none{S:Tx}{j:Nat}(h:S.length<=j)(hj:j<=S.length):TokAt S (lex j (S.drop j)) S.length 0 S.length/\headS (lex j (S.drop j))=[]:=by
 rw[List.drop_eq_nil_of_le h,lex_nil];exact⟨⟨rfl,rfl,by show[]=_;simp,rfl⟩,rfl⟩
theorem tok_some{S:Tx}{j:Nat}{c:UInt8}(h:S[j]? =some c)(hb:blankC c=false):TokAt S (lex j (S.drop j)) j (if letterC c then 1 else if digitC c||(c==45&&((S[j+1]?).any digitC))then 2 else 3) (j+longT (S.drop j)):=by
 have hs:=lex_step h;obtain⟨hlt,rfl⟩:=List.getElem?_eq_some_iff.1 h;rw[hb]at hs;simp only[Bool.false_eq_true,if_false]at hs;have hd:S.drop j=S[j]::S.drop (j+1):=List.drop_eq_getElem_cons hlt
 have l2:longT (S.drop j)<=S.length-j:=by
  have:=longT_le S[j] (S.drop (j+1));rw[hd];rw[List.length_drop]at this;omega
 have e1:(S.drop j).take (longT (S.drop j))=(S.take (j+longT (S.drop j))).drop j:=by
  rw[List.take_add,List.drop_append_of_le_length (by simp;omega)];simp
 have hk:kindT ((S.drop j).take (longT (S.drop j)))=if letterC S[j]then 1 else if digitC S[j]||(S[j]==45&&((S[j+1]?).any digitC))then 2 else 3:=by
  have:=long_kind S[j] (S.drop (j+1));rw[<-hd]at this;rw[this,List.head?_drop]
 rw[hs];refine⟨rfl,?_,e1,hk⟩;show j+((S.drop j).take (longT (S.drop j))).length=_;rw[List.length_take,List.length_drop,Nat.min_eq_left l2]
theorem long_word{S:Tx}{j q:Nat}{c:UInt8}(h:S[j]? =some c)(hl:letterC c=true)(hq:((S.drop (j+1)).takeWhile nameC).length=q-(j+1))(hjq:j+1<=q):j+longT (S.drop j)=q:=by
 obtain⟨hlt,rfl⟩:=List.getElem?_eq_some_iff.1 h;rw[List.drop_eq_getElem_cons hlt,longT_eq,if_pos hl,hq];omega
theorem long_num{S:Tx}{j q:Nat}{c:UInt8}(h:S[j]? =some c)(hl:letterC c=false)(hd:(digitC c||(c==45&&((S[j+1]?).any digitC)))=true)(hq:((S.drop (j+1)).takeWhile digitC).length=q-(j+1))(hjq:j+1<=q):j+longT (S.drop j)=q:=by
 obtain⟨hlt,rfl⟩:=List.getElem?_eq_some_iff.1 h;rw[List.drop_eq_getElem_cons hlt,longT_eq,if_neg (by rw[hl];decide),List.head?_drop,if_pos hd,hq];omega
theorem long_sign{S:Tx}{j:Nat}{c:UInt8}(h:S[j]? =some c)(hl:letterC c=false)(hd:(digitC c||(c==45&&((S[j+1]?).any digitC)))=false):j+longT (S.drop j)=if(c==47&&S[j+1]? ==some 92)||(c==92&&S[j+1]? ==some 47)then j+2 else j+1:=by
 obtain⟨hlt,rfl⟩:=List.getElem?_eq_some_iff.1 h;rw[List.drop_eq_getElem_cons hlt,longT_eq,if_neg (by rw[hl];decide),List.head?_drop,if_neg (by rw[hd];decide)]
 split<;>rfl
end Go.Proofs.YtkbbgjloifmmbaaGreatDoor
namespace Go.Proofs.YtkbbgjloifmmbaaGreatDoor
open Go.RowKit
theorem r09Blank:UF blankC 186:=fun c=>blanksF c _ (by decide)
theorem apart_at{s:Tx}{j:Nat}(h:(s.takeWhile blankC).length=j):apartB s=(s[j+3]?).any blankC:=by
 unfold apartB
 have e:s.dropWhile blankC=s.drop j:=by
  have:=List.takeWhile_append_dropWhile (p:=blankC) (l:=s)
  conv=>rhs;rw[<-this]
  rw[<-h,List.drop_left]
 rw[e,List.drop_drop,List.head?_drop]
theorem r09Apart(s:Tx)(hl:s.length<=262144)(w:World):Calls Tryz.prog 104 #[.string (tx s)] w fun e w'=>e= .returned (.bool (apartB s))/\w=w':=by
 obtain⟨j,h1,h2,h3,h4,h5⟩:=run_to blankC s _ 0 (Nat.le_refl _) (Nat.zero_le _);rw[List.drop_zero]at h5;have HA:=hid (apart_at (s:=s) (j:=j) (by omega));obtain⟨n,hn⟩: ∃n,(tx s).size=n:=⟨_,rfl⟩;have HN:=hid (show n=s.length by rw[<-hn,tx_size]);have hnb:n<=262144:=by rw[HN.out];exact hl
 have hjn:j<=n:=by rw[HN.out];exact h2
 have HS:=hid h3;have HE:=hid h4;clear h1 h2 h3 h4 h5 hl;go_enter Tryz.func104,Tryz.ntmps104;go_wp2_with fail
 go_loop [3] (fun x=> ∃k:Nat,k<=j/\x= .int .i64 k) (fun x=>j-(intOf x).toNat)
 case atStart=>exact⟨0,Nat.zero_le _,rfl⟩
 case round=>
  obtain⟨k,hkj,rfl⟩:=hrel
  by_cases hlt:k<j
  ·obtain⟨x,hx,hxb⟩:=HS.out k (Nat.zero_le _) hlt
   have ix:=run_ix s k x hx;have zk:decide ((k:Int)<(n:Int))=true:=by simp;omega
   have HB:=hid hxb;clear hx hxb
   go_wp2_with (go_at_call 186;refine(r09Blank x _).mono ?_;rintro e w' ⟨rfl,rfl⟩;rw[HB.out])
   go_round
   case rel=>exact⟨k+1,by omega,by go_num⟩
   case measure=>simp[intOf];omega
  ·obtain rfl:k=j:=by omega
   by_cases hkn:k<n
   ·obtain⟨x,hx⟩: ∃x,s[k]? =some x:=⟨_,List.getElem?_eq_getElem (by have:=HN.out;omega)⟩
    have ix:=run_ix s k x hx;have zk:decide ((k:Int)<(n:Int))=true:=by simp;omega
    have HB:=hid (HE.out x hx);clear hx
    by_cases hk3:k+3<n
    ·obtain⟨y,hy⟩: ∃y,s[k+3]? =some y:=⟨_,List.getElem?_eq_getElem (by have:=HN.out;omega)⟩
     have iy:=run_ix s (k+3) y hy;rw[show((k+3:Nat):Int)=(k:Int)+3 by omega]at iy;have zk3:decide ((k:Int)+3<(n:Int))=true:=by simp;omega
     have HY:=hid (show blankC y=apartB s by rw[HA.out,hy];rfl);clear hy
     by_cases hxy:y=x
     ·subst hxy
      have HY:=hid (show false=apartB s by rw[<-HY.out,HB.out])
      go_wp2_with (go_at_call 186;refine(r09Blank y _).mono ?_;rintro e w' ⟨rfl,rfl⟩;rw[HB.out])
      go_ret;exact⟨ret_bool HY.out,rfl⟩
     ·have CX:=hid (fun w=>r09Blank x w)
      have CY:=hid (fun w=>r09Blank y w);rw[HB.out]at CX;rw[HY.out]at CY;generalize (x.toNat:Int)=xi at*;generalize (y.toNat:Int)=yi at*
      go_wp2_with (first|(go_at_call 186;with_reducible refine(CX.out _).mono ?_;rintro e w' ⟨rfl,rfl⟩)|(go_at_call 186;with_reducible refine(CY.out _).mono ?_;rintro e w' ⟨rfl,rfl⟩))
      go_ret;exact⟨rfl,rfl⟩
    ·have HY:=hid (show false=apartB s by rw[HA.out,List.getElem?_eq_none (by have:=HN.out;omega)];rfl)
     have zk3:decide ((k:Int)+3<(n:Int))=false:=by simp;omega
     go_wp2_with (go_at_call 186;refine(r09Blank x _).mono ?_;rintro e w' ⟨rfl,rfl⟩;rw[HB.out])
     go_ret;exact⟨ret_bool HY.out,rfl⟩
   ·have HY:=hid (show false=apartB s by rw[HA.out,List.getElem?_eq_none (by have:=HN.out;omega)];rfl)
    have zk:decide ((k:Int)<(n:Int))=false:=by simp;omega
    have zk3:decide ((k:Int)+3<(n:Int))=false:=by simp;omega
    go_wp2_with fail;go_ret;exact⟨ret_bool HY.out,rfl⟩
theorem valE_concat(x:UInt8): ∀(l:Tx) (a:Nat),valE a (l++[x])=if digitC x then 10*valE a l+(x.toNat-48)else valE a l
 |[],a=>rfl
 |c::r,a=>valE_concat x r _
def ValAt(s:Tx)(k V:Nat):Prop:=V=valE 0 (s.take k)
theorem ValAt.small{s:Tx}{k V:Nat}(h:ValAt s k V)(hk:k<=11):V<100000000000:=by
 have:=valE_lt 11 (s.take k) 0 (by simp;omega);unfold ValAt at h;omega
theorem ValAt.step{s:Tx}{k V:Nat}{x:UInt8}(h:ValAt s k V)(hx:s[k]? =some x)(hd:digitC x=true):ValAt s (k+1) (10*V+(x.toNat-48)):=by
 unfold ValAt at *; rw[take_snoc hx,valE_concat,if_pos hd,h]
theorem ValAt.skip{s:Tx}{k V:Nat}{x:UInt8}(h:ValAt s k V)(hx:s[k]? =some x)(hd:digitC x=false):ValAt s (k+1) V:=by
 unfold ValAt at *; rw[take_snoc hx,valE_concat,if_neg (by rw[hd];decide),h]
theorem valS_out{s:Tx}{v:Int}(h:valS s=v)(hn:n32B v=true):OptV (numR s) v (Lib.itoa v==s):=by
 unfold OptV;rw[numR_valS,h]
 by_cases hh:Lib.itoa v=s
 ·rw[if_pos ⟨hh,hn⟩,if_pos (by simpa using hh)]
 ·rw[if_neg (fun h=>hh h.1),if_neg (by simpa using hh)]
theorem valS_far{s:Tx}{v:Int}(h:valS s=v)(hn:n32B v=false)(u:Int):OptV (numR s) u false:=by
 unfold OptV;rw[numR_valS,h,if_neg (by rw[hn];rintro⟨-, h⟩;cases h)];rfl
theorem numR_long{s:Tx}(h:s=[]\/11<s.length):numR s=none:=by
 cases hn:numR s with
 |none=>rfl
 | some v=>
   have h1:=numR_len hn;rcases h with rfl|h
   ·have:=kind_numR hn;cases this
   ·omega
theorem r09Int(s:Tx)(hl:s.length<=9223372036854775807)(w:World)(g:Gl w):Calls Tryz.prog 253 #[.string (tx s)] w (RetNum (numR s) w):=by
 obtain⟨n,hn⟩: ∃n,(tx s).size=n:=⟨_,rfl⟩;have HN:=hid (show n=s.length by rw[<-hn,tx_size]);have hnb:n<=9223372036854775807:=by rw[HN.out];exact hl
 by_cases h0:n=0
 ·have HR:=hid (numR_long (s:=s) (.inl (List.eq_nil_of_length_eq_zero (by rw[<-HN.out];exact h0))))
  have z0:((n:Int)==0)=true:=by simp;omega
  clear h0 g;go_enter Tryz.func253,Tryz.ntmps253;go_wp2_with fail
  go_ret2
  exact⟨0,false,rfl,HR.out,(by repeat(first|with_reducible assumption|with_reducible exact Below.refl _ _|with_reducible refine Below.setCell ?_ (Nat.le_refl _) _|with_reducible refine Below.setCell ?_ (by simp) _|with_reducible refine Below.alloc ?_ (Nat.le_refl _) _|with_reducible refine Below.alloc ?_ (by simp) _|with_reducible refine Below.alloc ?_ (by simp<;>omega) _|with_reducible refine Below.drew ?_))⟩
 have z0:((n:Int)==0)=false:=by simp;omega
 by_cases h11:11<n
 ·have HR:=hid (numR_long (s:=s) (.inr (by rw[<-HN.out];exact h11)))
  have z1:decide ((11:Int)<(n:Int))=true:=by simp;omega
  clear h0 g;go_enter Tryz.func253,Tryz.ntmps253;go_wp2_with fail
  go_ret2
  exact⟨0,false,rfl,HR.out,(by repeat(first|with_reducible assumption|with_reducible exact Below.refl _ _|with_reducible refine Below.setCell ?_ (Nat.le_refl _) _|with_reducible refine Below.setCell ?_ (by simp) _|with_reducible refine Below.alloc ?_ (Nat.le_refl _) _|with_reducible refine Below.alloc ?_ (by simp) _|with_reducible refine Below.alloc ?_ (by simp<;>omega) _|with_reducible refine Below.drew ?_))⟩
 have z1:decide ((11:Int)<(n:Int))=false:=by simp;omega
 obtain⟨c,hc⟩: ∃c,s[0]? =some c:=⟨_,List.getElem?_eq_getElem (by have:=HN.out;omega)⟩;have hh:s.head?=some c:=by rw[<-hc];cases s<;>rfl
 have i0:=run_ixz s c hc;have h11:n<=11:=by omega
 have HG:=hid g;clear hc h0 g;obtain⟨b,hb⟩: ∃b,((c.toNat:Int)==45)=b:=⟨_,rfl⟩
 have HV:=hid (show ∀V,ValAt s n V->valS s=if b=true then -(V:Int)else(V:Int)from fun V h=>by
  have e45:((c.toNat:Int)==45)=(c==45):=byte_eq (x:=c) 45 (by decide);unfold ValAt at h;rw[HN.out,List.take_length]at h;unfold valS;rw[hh,h,<-hb,e45]
  by_cases e:c=45
  ·rw[if_pos (by rw[e]),if_pos (by simpa using e)];omega
  ·rw[if_neg (fun h=>e (Option.some.inj h)),if_neg (by simpa using e)])
 clear hh;go_enter Tryz.func253,Tryz.ntmps253;go_wp2_with fail
 go_loop [4,5] (fun v kk=> ∃k V:Nat,k<=n/\kk= .int .i64 k/\v= .int .i64 V/\Hid (ValAt s k V)) (fun _ kk=>n-(intOf kk).toNat)
 case atStart=>exact⟨0,0,by omega,rfl,rfl,rfl⟩
 case round=>
  obtain⟨k,V,hk,rfl,rfl,HA⟩:=hrel;have hV:=HA.out.small (by omega)
  by_cases hlt:k<n
  ·obtain⟨x,hx⟩: ∃x,s[k]? =some x:=⟨_,List.getElem?_eq_getElem (by have:=HN.out;omega)⟩
   have ix:=run_ix s k x hx;cases hd:digitC x
   ·have HR:=hid (HA.out.skip hx hd)
    have HD:=hid hd;clear hx hd HA
    go_wp2_with (go_at_call 308;refine(r09Digit x _).mono ?_;rintro e w' ⟨rfl,rfl⟩;rw[HD.out])
    go_round
    case rel=>exact⟨k+1,V,by omega,by go_num,rfl,HR.out⟩
    case measure=>simp[intOf];omega
   ·have HR:=hid (HA.out.step hx hd)
    have HD:=hid hd;obtain⟨x1,x2⟩:=digitC_nat hd;clear hx hd HA
    go_wp2_with (go_at_call 308;refine(r09Digit x _).mono ?_;rintro e w' ⟨rfl,rfl⟩;rw[HD.out])
    go_round
    case rel=>exact⟨k+1,_,by omega,by go_num,by congr 1;omega,HR.out⟩
    case measure=>simp[intOf];omega
  ·obtain rfl:k=n:=by omega
   have hv:=HV.out V HA.out;obtain⟨v,hvv⟩: ∃v:Int,(if b=true then -(V:Int)else(V:Int))=v:=⟨_,rfl⟩;rw[hvv]at hv;have hvb: -100000000000<=v/\v<=100000000000:=by rw[<-hvv];split<;>omega
   have IT:=hid (fun(w:World) (g:Gl w)=>itoa_any v (by omega) (by omega) w g);cases hq:n32B v with
   | true=>
     have HO:=hid (valS_out hv hq);have HQ:=hid hq;obtain⟨u,hu⟩: ∃u,Lib.itoa v=u:=⟨_,rfl⟩;rw[hu]at HO IT;have hz:((tx u).toList==(tx s).toList)=(u==s):=tx_beq u s;generalize (u==s)=bb at*;clear hv hq hu HA HV;cases b
     all_goals
      simp only[if_true,Bool.false_eq_true,if_false]at hvv;subst hvv;go_wp2_with fail;refine(IT.out _ HG.out).mono ?_;rintro e w1 ⟨rfl,E⟩;cases bb
      all_goals
       go_wp2_with (go_at_call 309;refine(r09Number _ _).mono ?_;rintro e w' ⟨rfl,rfl⟩;rw[HQ.out])
       go_ret2
       exact⟨_,_,rfl,HO.out,E⟩
   | false=>
     have HO:=hid (valS_far hv hq);have HQ:=hid hq;obtain⟨u,hu⟩: ∃u,Lib.itoa v=u:=⟨_,rfl⟩;rw[hu]at IT;have hz:((tx u).toList==(tx s).toList)=(u==s):=tx_beq u s;generalize (u==s)=bb at*;clear hv hq hu HA HV;cases b
     all_goals
      simp only[if_true,Bool.false_eq_true,if_false]at hvv;subst hvv;go_wp2_with fail;refine(IT.out _ HG.out).mono ?_;rintro e w1 ⟨rfl,E⟩;cases bb
      all_goals
       go_wp2_with (go_at_call 309;refine(r09Number _ _).mono ?_;rintro e w' ⟨rfl,rfl⟩;rw[HQ.out])
       go_ret2
       exact⟨_,_,rfl,HO.out _,E⟩
end Go.Proofs.YtkbbgjloifmmbaaGreatDoor
namespace Go.Proofs.YtkbbgjloifmmbaaGreatDoor
open Go.RowKit Go.Sort
def RetRO(w:World)(o:Option Nat)(e:Ending)(w':World):Prop:=Below w.heap.size w w'/\match o with
 |some n=>e= .returned (.tuple #[.int .i64 n,.bool true])
 |none=>e= .returned (.tuple #[.int .i64 0,.bool false])
theorem r08RegOf(arch:Int)(s:Tx)(w:World):Calls Tryz.prog 117 #[.int .i64 arch,.string (tx s)] w (RetRO w (regOfA arch s)):=by
 obtain⟨N,hN⟩: ∃N:Nat,regsN arch=N:=⟨(regsN arch).toNat,by have:=regsN_bd arch;omega⟩;have hb:=regsN_bd arch;have CR:=hid (r08Regs arch);have RG:=hid (fun(k:Nat) (hk:(k:Int)<regsN arch) (w:World)=>r08Reg arch k hk w);have HH:=hid (fun(n:Nat) (h:n<N)=>regA_hit (arch:=arch) (s:=s) (n:=n) (by omega));have HM:=hid (fun(hm: ∀m,m<N->regA arch m≠s)=>regA_miss (arch:=arch) (s:=s) (n:=N) hN.symm hm);have HB:=hid (show ∀k:Nat,k<N->(k:Int)<regsN arch from fun k hk=>by omega);rw[hN]at CR;generalize regOfA arch s=o at*;have hNb:N<=32:=by omega
 clear hN hb;go_enter Tryz.func117,Tryz.ntmps117;go_wp2_with fail
 go_loopw [6] (fun i wr=> ∃k:Nat,k<=N/\i= .int .i64 k/\Below w.heap.size w wr/\Hid (∀m,m<k->regA arch m≠s)) (fun i _=>N-(intOf i).toNat)
 case atStart=>exact⟨0,by omega,rfl,blN,fun m hm=>absurd hm (Nat.not_lt_zero m)⟩
 case round=>
  obtain⟨k,hk,rfl,E,HK⟩:=hrel
  by_cases hlt:k<N
  ·have RC:=hid (RG.out k (HB.out k hlt))
   by_cases he:regA arch k=s
   ·have hz:((tx (regA arch k)).toList==(tx s).toList)=true:=by rw[tx_beq];simpa using he
    have HO:=hid (HH.out k hlt HK.out he);clear he;generalize regA arch k=u at*
    go_wp2_with (go_at_call 202;refine(CR.out _).mono ?_;rintro e w' ⟨rfl,rfl⟩)
    refine(RC.out _).mono ?_;rintro e w1 ⟨rfl,q⟩;have E:=E.trans (q.below'.mono E.size);go_wp2_with fail
    go_ret2
    exact⟨E,by rw[HO.out];rfl⟩
   ·have hz:((tx (regA arch k)).toList==(tx s).toList)=false:=tx_eq_false he
    have HK2:=hid (show ∀m,m<k+1->regA arch m≠s from fun m hm=>by
     rcases Nat.lt_succ_iff_lt_or_eq.1 hm with h|h
     ·exact HK.out m h
     ·subst h;exact he)
    clear he;generalize regA arch k=u at*
    go_wp2_with (go_at_call 202;refine(CR.out _).mono ?_;rintro e w' ⟨rfl,rfl⟩)
    refine(RC.out _).mono ?_;rintro e w1 ⟨rfl,q⟩;have E:=E.trans (q.below'.mono E.size);go_wp2_with fail
    go_roundw
    case rel=>exact⟨k+1,by omega,by go_num,E,HK2⟩
    case measure=>simp[intOf];omega
  ·obtain rfl:k=N:=by omega
   have HO:=hid (HM.out HK.out)
   go_wp2_with (go_at_call 202;refine(CR.out _).mono ?_;rintro e w' ⟨rfl,rfl⟩)
   go_ret2
   exact⟨E,by rw[HO.out];rfl⟩
end Go.Proofs.YtkbbgjloifmmbaaGreatDoor
namespace Go.Proofs.YtkbbgjloifmmbaaGreatDoor
open Go.RowKit
def NumQ(s:Tx)(w:World)(e:Ending)(w':World):Prop:=w=w'/\match numV s with
 |none=>e= .returned (.tuple #[.int .i64 0,.bool false])
 |some v=>if n32B v=true then e= .returned (.tuple #[.int .i64 v,.bool true])else e= .returned (.tuple #[.int .i64 0,.bool false])
theorem NumQ.no{s:Tx}(w:World)(h:numV s=none):NumQ s w (.returned (.tuple #[.int .i64 0,.bool false])) w:=⟨rfl,by rw[h]⟩
theorem NumQ.yes{s:Tx}(w:World){v:Int}(h:numV s=some v)(hq:n32B v=true):NumQ s w (.returned (.tuple #[.int .i64 v,.bool true])) w:=⟨rfl,by rw[h];simp[hq]⟩
theorem NumQ.big{s:Tx}(w:World){v:Int}(h:numV s=some v)(hq:n32B v=false):NumQ s w (.returned (.tuple #[.int .i64 0,.bool false])) w:=⟨rfl,by rw[h];simp[hq]⟩
theorem r08NumberT(s:Tx)(w:World):Calls Tryz.prog 116 #[.string (tx s)] w (NumQ s w):=by
 obtain⟨n,hn⟩: ∃n,s.length=n:=⟨_,rfl⟩;have hsz:(tx s).size=n:=by rw[tx_size,hn]
 have HN:=hid hn
 by_cases h0:n=0
 ·have HR:=hid (show numV s=none by unfold numV;rw[if_pos (.inl (List.eq_nil_of_length_eq_zero (by omega)))])
  have z0:((n:Int)==0)=true:=by simp;omega
  clear hn h0;go_enter Tryz.func116,Tryz.ntmps116;go_wp2_with fail
  go_ret2
  exact NumQ.no _ HR.out
 have z0:((n:Int)==0)=false:=by simp;omega
 have hn1:1<=n:=by omega
 by_cases h11:11<n
 ·have HR:=hid (show numV s=none by unfold numV;rw[if_pos (.inr (by omega))])
  clear hn h0;go_enter Tryz.func116,Tryz.ntmps116;go_wp2_with fail
  go_ret2
  exact NumQ.no _ HR.out
 obtain⟨c,hc⟩: ∃c,s[0]? =some c:=⟨_,List.getElem?_eq_getElem (by omega)⟩;have hh:s.head?=some c:=by rw[<-hc];cases s<;>rfl
 have HU: ¬(s=[]\/11<s.length):=by
  rintro(rfl|h)
  ·exact h0 hn.symm
  ·omega
 have i0:=run_ixz s c hc
 by_cases h45:c=45
 ·subst h45
  have z45:(((45:UInt8).toNat:Int)==45)=true:=by decide
  have HV:=hid (show numV s=(if s.drop 1=[]\/(s.drop 1).head?=some 48\/(s.drop 1).all digitC=false then none else some (-(valT 0 (s.drop 1):Int))) by unfold numV;rw[if_neg HU,if_pos hh]);clear HU hh hc
  by_cases h1:n=1
  ·have HR:=hid (show numV s=none by rw[HV.out,if_pos (.inl (List.drop_eq_nil_of_le (by omega)))])
   have z1:((1:Int)==(n:Int))=true:=by simp;omega
   clear hn h0 h1 HV;go_enter Tryz.func116,Tryz.ntmps116;go_wp2_with fail
   go_ret2
   exact NumQ.no _ HR.out
  have z1:((1:Int)==(n:Int))=false:=by simp;omega
  obtain⟨d,hd⟩: ∃d,s[1]? =some d:=⟨_,List.getElem?_eq_getElem (by omega)⟩;have hdh:(s.drop 1).head?=some d:=by rw[List.head?_drop];exact hd
  have i1: ∀w,(Instr.index 9 (.string (tx s)) (.int .i64 1)).run Tryz.prog w= .ok (.int .u8 d.toNat) w:=run_ix s 1 d hd
  by_cases h48:d=48
  ·have z48:((d.toNat:Int)==48)=true:=by rw[h48];decide
   have HR:=hid (show numV s=none by rw[HV.out,if_pos (.inr (.inl (by rw[hdh,h48])))]);clear hn h0 HV hdh h48 hd
   by_cases h2:2<n
   ·go_enter Tryz.func116,Tryz.ntmps116
    go_wp2_with fail
    go_ret2
    exact NumQ.no _ HR.out
   ·go_enter Tryz.func116,Tryz.ntmps116
    go_wp2_with fail
    go_ret2
    exact NumQ.no _ HR.out
  have z48:((d.toNat:Int)==48)=false:=by
   simp only[beq_eq_false_iff_ne,ne_eq];intro e;exact h48 (UInt8.toNat_inj.1 (by have:(48:UInt8).toNat=48:=rfl;omega))
  have HB:=hid (fun(h:(s.drop 1).all digitC=false)=>show numV s=none by rw[HV.out,if_pos (.inr (.inr h))])
  have HG:=hid (fun(h:(s.drop 1).all digitC=true)=>show numV s=some (-(valT 0 (s.drop 1):Int)) by
   rw[HV.out,if_neg];rintro(h'|h'|h')
   ·rw[h']at hdh;cases hdh
   ·rw[hdh]at h';exact h48 (Option.some.inj h')
   ·rw[h]at h';cases h')
  clear hn h0 HV hdh h48 hd;go_enter Tryz.func116,Tryz.ntmps116;go_wp2_with fail
  go_loop [5,6] (fun v kk=> ∃k V:Nat,k<=n/\kk= .int .i64 k/\v= .int .i64 V/\Hid (NumAt s 1 k V)) (fun _ kk=>n-(intOf kk).toNat)
  case atStart=>exact⟨1,0,by omega,rfl,rfl,NumAt.zero s 1⟩
  case round=>
   obtain⟨k,V,hk,rfl,rfl,HA⟩:=hrel;have hV:=HA.out.small (by omega)
   by_cases hlt:k<n
   ·obtain⟨x,hx⟩: ∃x,s[k]? =some x:=⟨_,List.getElem?_eq_getElem (by have:=HN.out;omega)⟩
    have ix:=run_ix s k x hx;cases hd:digitC x
    ·have HR:=hid (HB.out (HA.out.bad hx hd))
     have HD:=hid hd;clear hx hd HA
     go_wp2_with (go_at_call 200;refine(r08Digit x _).mono ?_;rintro e w' ⟨rfl,rfl⟩;rw[HD.out])
     go_ret2
     exact NumQ.no _ HR.out
    ·have HR:=hid (HA.out.step hx hd)
     have HD:=hid hd;obtain⟨x1,x2⟩:=digitC_nat hd;clear hx hd HA
     go_wp2_with (go_at_call 200;refine(r08Digit x _).mono ?_;rintro e w' ⟨rfl,rfl⟩;rw[HD.out])
     go_round
     case rel=>exact⟨k+1,_,by omega,by go_num,by congr 1;omega,HR.out⟩
     case measure=>simp[intOf];omega
   ·obtain⟨hv,ha⟩:=HA.out.done (by have:=HN.out;omega)
    have HR:=hid (HG.out ha);rw[<-hv]at HR;clear hv ha HA;have hb2: ∀b v,n32B v=b-> ∀w,Calls Tryz.prog 201 #[.int .i64 v] w fun e w'=>e= .returned (.bool b)/\w=w':=fun b v h w=>h▸r08Number v w
    rcases Bool.eq_false_or_eq_true (n32B _)with hq|hq
    all_goals go_wp2_with (go_at_call 201;refine(hb2 _ _ hq _).mono ?_;rintro e w' ⟨rfl,rfl⟩)
    all_goals go_ret2
    all_goals first|exact NumQ.yes _ HR.out hq|exact NumQ.big _ HR.out hq
 have z45:((c.toNat:Int)==45)=false:=by
  simp only[beq_eq_false_iff_ne,ne_eq];intro e;exact h45 (UInt8.toNat_inj.1 (by have:(45:UInt8).toNat=45:=rfl;omega))
 have HV:=hid (show numV s=(if(s.head?=some 48/\1<s.length)\/s.all digitC=false then none else some (valT 0 s:Int)) by unfold numV;rw[if_neg HU,if_neg (by rw[hh];intro e;exact h45 (Option.some.inj e))]);have z1:((0:Int)==(n:Int))=false:=by simp;omega
 have HB:=hid (fun(h:(s.drop 0).all digitC=false)=>show numV s=none by rw[HV.out,if_pos (.inr h)])
 by_cases h48:c=48
 ·have z48:((c.toNat:Int)==48)=true:=by rw[h48];decide
  by_cases h1:1<n
  ·have HR:=hid (show numV s=none by rw[HV.out,if_pos (.inl ⟨by rw[hh,h48],by omega⟩)])
   clear hn h0 HV hh h48 hc HU h45;go_enter Tryz.func116,Tryz.ntmps116;go_wp2_with fail
   go_ret2
   exact NumQ.no _ HR.out
  have HG:=hid (fun(h:(s.drop 0).all digitC=true)=>show numV s=some (valT 0 (s.drop 0):Int) by
   rw[HV.out,if_neg]
   ·rfl
   rintro(⟨-, h'⟩|h')
   ·omega
   ·rw[show s.all digitC=true from h]at h';cases h')
  clear hn h0 HV hh h48 hc HU h45;go_enter Tryz.func116,Tryz.ntmps116;go_wp2_with fail
  go_loop [5,6] (fun v kk=> ∃k V:Nat,k<=n/\kk= .int .i64 k/\v= .int .i64 V/\Hid (NumAt s 0 k V)) (fun _ kk=>n-(intOf kk).toNat)
  case atStart=>exact⟨0,0,by omega,rfl,rfl,NumAt.zero s 0⟩
  case round=>
   obtain⟨k,V,hk,rfl,rfl,HA⟩:=hrel;have hV:=HA.out.small (by omega)
   by_cases hlt:k<n
   ·obtain⟨x,hx⟩: ∃x,s[k]? =some x:=⟨_,List.getElem?_eq_getElem (by have:=HN.out;omega)⟩
    have ix:=run_ix s k x hx;cases hd:digitC x
    ·have HR:=hid (HB.out (HA.out.bad hx hd))
     have HD:=hid hd;clear hx hd HA
     go_wp2_with (go_at_call 200;refine(r08Digit x _).mono ?_;rintro e w' ⟨rfl,rfl⟩;rw[HD.out])
     go_ret2
     exact NumQ.no _ HR.out
    ·have HR:=hid (HA.out.step hx hd)
     have HD:=hid hd;obtain⟨x1,x2⟩:=digitC_nat hd;clear hx hd HA
     go_wp2_with (go_at_call 200;refine(r08Digit x _).mono ?_;rintro e w' ⟨rfl,rfl⟩;rw[HD.out])
     go_round
     case rel=>exact⟨k+1,_,by omega,by go_num,by congr 1;omega,HR.out⟩
     case measure=>simp[intOf];omega
   ·obtain⟨hv,ha⟩:=HA.out.done (by have:=HN.out;omega)
    have HR:=hid (HG.out ha);rw[<-hv]at HR;clear hv ha HA;have hb2: ∀b v,n32B v=b-> ∀w,Calls Tryz.prog 201 #[.int .i64 v] w fun e w'=>e= .returned (.bool b)/\w=w':=fun b v h w=>h▸r08Number v w
    rcases Bool.eq_false_or_eq_true (n32B _)with hq|hq
    all_goals go_wp2_with (go_at_call 201;refine(hb2 _ _ hq _).mono ?_;rintro e w' ⟨rfl,rfl⟩)
    all_goals go_ret2
    all_goals first|exact NumQ.yes _ HR.out hq|exact NumQ.big _ HR.out hq
 have z48:((c.toNat:Int)==48)=false:=by
  simp only[beq_eq_false_iff_ne,ne_eq];intro e;exact h48 (UInt8.toNat_inj.1 (by have:(48:UInt8).toNat=48:=rfl;omega))
 have HG:=hid (fun(h:(s.drop 0).all digitC=true)=>show numV s=some (valT 0 (s.drop 0):Int) by
  rw[HV.out,if_neg]
  ·rfl
  rintro(⟨h', -⟩|h')
  ·rw[hh]at h';exact h48 (Option.some.inj h')
  ·rw[show s.all digitC=true from h]at h';cases h')
 clear hn h0 HV hh h48 hc HU h45;go_enter Tryz.func116,Tryz.ntmps116;go_wp2_with fail
 go_loop [5,6] (fun v kk=> ∃k V:Nat,k<=n/\kk= .int .i64 k/\v= .int .i64 V/\Hid (NumAt s 0 k V)) (fun _ kk=>n-(intOf kk).toNat)
 case atStart=>exact⟨0,0,by omega,rfl,rfl,NumAt.zero s 0⟩
 case round=>
  obtain⟨k,V,hk,rfl,rfl,HA⟩:=hrel;have hV:=HA.out.small (by omega)
  by_cases hlt:k<n
  ·obtain⟨x,hx⟩: ∃x,s[k]? =some x:=⟨_,List.getElem?_eq_getElem (by have:=HN.out;omega)⟩
   have ix:=run_ix s k x hx;cases hd:digitC x
   ·have HR:=hid (HB.out (HA.out.bad hx hd))
    have HD:=hid hd;clear hx hd HA
    go_wp2_with (go_at_call 200;refine(r08Digit x _).mono ?_;rintro e w' ⟨rfl,rfl⟩;rw[HD.out])
    go_ret2
    exact NumQ.no _ HR.out
   ·have HR:=hid (HA.out.step hx hd)
    have HD:=hid hd;obtain⟨x1,x2⟩:=digitC_nat hd;clear hx hd HA
    go_wp2_with (go_at_call 200;refine(r08Digit x _).mono ?_;rintro e w' ⟨rfl,rfl⟩;rw[HD.out])
    go_round
    case rel=>exact⟨k+1,_,by omega,by go_num,by congr 1;omega,HR.out⟩
    case measure=>simp[intOf];omega
  ·obtain⟨hv,ha⟩:=HA.out.done (by have:=HN.out;omega)
   have HR:=hid (HG.out ha);rw[<-hv]at HR;clear hv ha HA;have hb2: ∀b v,n32B v=b-> ∀w,Calls Tryz.prog 201 #[.int .i64 v] w fun e w'=>e= .returned (.bool b)/\w=w':=fun b v h w=>h▸r08Number v w
   rcases Bool.eq_false_or_eq_true (n32B _)with hq|hq
   all_goals go_wp2_with (go_at_call 201;refine(hb2 _ _ hq _).mono ?_;rintro e w' ⟨rfl,rfl⟩)
   all_goals go_ret2
   all_goals first|exact NumQ.yes _ HR.out hq|exact NumQ.big _ HR.out hq
end Go.Proofs.YtkbbgjloifmmbaaGreatDoor
