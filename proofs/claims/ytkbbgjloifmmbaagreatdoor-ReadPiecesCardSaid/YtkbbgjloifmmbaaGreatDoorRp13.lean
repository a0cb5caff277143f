/- What ReadPiecesP leans on, part 13. -/
import Derived.Lib.FieldsP
import Derived.Lib.SpaceUEq
import Derived.Test.YtkbbgjloifmmbaaGreatDoorRp12
import Derived.RegionDies
set_option linter.unusedVariables false
set_option maxRecDepth 100000
set_option maxHeartbeats 6400000
namespace Go.Proofs.YtkbbgjloifmmbaaGreatDoor
theorem decodeN_high(n b0 b1 b2 b3:Nat)(h: ¬b0<128):128<=(Lib.decodeN n b0 b1 b2 b3).1:=by
 unfold Lib.decodeN;rw[if_neg h]
 repeat' split
 all_goals(simp only;omega)
theorem rune_at(l:Tx)(pos:Nat)(c:UInt8)(hc:l[pos]? =some c):(c.toNat<128/\Utf8.decode (tx l) pos=(c.toNat,1))\/(128<=c.toNat/\128<=(Utf8.decode (tx l) pos).1/\1<=(Utf8.decode (tx l) pos).2/\pos+(Utf8.decode (tx l) pos).2<=l.length/\ ∀j d,j<(Utf8.decode (tx l) pos).2->l[pos+j]? =some d->128<=d.toNat):=by
 have hlt:=(List.getElem?_eq_some_iff.1 hc).1;have g: ∀k,l.getD k 0=(l[k]?).getD 0:=fun k=>by simp[List.getD]
 have h:=Lib.decode_N (tx l) pos;rw[tx_data]at h;have h0:(l.getD pos 0)=c:=by rw[g,hc];rfl
 rw[h0]at h;have hcv:=c.toNat_lt
 by_cases h1:c.toNat<128
 ·left
  refine⟨h1,?_⟩;rw[h,Lib.decodeN_ascii _ _ _ _ _ h1]
 ·right
  have hh:=decodeN_high (l.length-pos) c.toNat (l.getD (pos+1) 0).toNat (l.getD (pos+2) 0).toNat (l.getD (pos+3) 0).toNat h1;have hw:=Lib.decodeN_ge1 (l.length-pos) c.toNat (l.getD (pos+1) 0).toNat (l.getD (pos+2) 0).toNat (l.getD (pos+3) 0).toNat;obtain⟨c2,c3,c4,c5⟩:=Lib.decodeN_conts (l.length-pos) c.toNat (l.getD (pos+1) 0).toNat (l.getD (pos+2) 0).toNat (l.getD (pos+3) 0).toNat;rw[h];generalize Lib.decodeN (l.length-pos) c.toNat (l.getD (pos+1) 0).toNat (l.getD (pos+2) 0).toNat (l.getD (pos+3) 0).toNat=p at*;refine⟨by omega,hh,hw,?_,fun j d hj hd=>?_⟩
  ·have:=p.2
   rcases Nat.lt_or_ge 3 p.2 with k|k
   ·have:=(c4 k).2;omega
   ·rcases Nat.lt_or_ge 2 p.2 with k|k
    ·have:=(c3 k).2;omega
    ·rcases Nat.lt_or_ge 1 p.2 with k|k
     ·have:=(c2 k).2;omega
     ·omega
  ·have gd: ∀k,l[k]? =some d->l.getD k 0=d:=fun k hk=>by rw[g,hk];rfl
   match j,hj with
   |0,_=>rw[Nat.add_zero,hc]at hd;cases hd;omega
   |1,hj=>have:=(c2 (by omega)).1;rw[gd _ hd]at this;omega
   |2,hj=>have:=(c3 (by omega)).1;rw[gd _ hd]at this;omega
   |3,hj=>have:=(c4 (by omega)).1;rw[gd _ hd]at this;omega
   |k+4,hj=>omega
def fldA:Tx->Tx->List Tx
 |u,[]=>flushX u
 |u,c::r=>if blankC c then flushX u++fldA [] r else fldA (u++[c]) r
theorem fA_blank(u:Tx){c:UInt8}(r:Tx)(h:blankC c=true):fldA u (c::r)=flushX u++fldA [] r:=by rw[fldA,if_pos h]
theorem fA_in(u:Tx){c:UInt8}(r:Tx)(h:blankC c=false):fldA u (c::r)=fldA (u++[c]) r:=by rw[fldA,if_neg (by rw[h];decide)]
theorem fA_run: ∀(x u r:Tx),(∀c∈x,blankC c=false)->fldA u (x++r)=fldA (u++x) r
 |[],u,r,_=>by simp
 |c::x,u,r,h=>by rw[List.cons_append,fA_in _ _ (h c (by simp)),fA_run x _ r (fun d hd=>h d (by simp[hd]))];simp
def runeB(n:Nat):Bool:=decide (n=32)||(decide (n=9)||(decide (n=10)||decide (n=13)))
theorem runeB_byte(c:UInt8):runeB c.toNat=blankC c:=by
 have:=u8_all (p:=fun c=>runeB c.toNat==blankC c) (by decide+kernel) c;simpa using this
theorem high_blank{c:UInt8}(h:128<=c.toNat):blankC c=false:=by
 rw[<-runeB_byte];unfold runeB;simp;omega
def pcs(l:Tx)(x:Nat × Nat):Tx:=(l.take x.2).drop x.1
def opn(l:Tx)(st:Option Nat)(pos:Nat):Tx:=match st with
 |some a=>(l.take pos).drop a
 |none=>[]
theorem take_more(l:Tx)(a pos k:Nat)(h:a<=pos)(hp:pos+k<=l.length):(l.take (pos+k)).drop a=(l.take pos).drop a++(l.drop pos).take k:=by
 rw[List.take_add,List.drop_append_of_le_length (by simp;omega)]
theorem spans_fld(l:Tx): ∀(f pos:Nat) (st:Option Nat) (acc:List (Nat × Nat)),l.length<=pos+f->pos<=l.length->(∀a,st=some a->a<pos)->
 acc.map (pcs l)++fldA (opn l st pos) (l.drop pos)=(Lib.closeSpans (tx l) (Lib.spansFromP runeB (tx l) f pos st acc)).map (pcs l)
 | 0,pos,st,acc,h,hp,hst=>by
   obtain rfl:pos=l.length:=by omega
   rw[List.drop_length];cases st with
   |none=>simp[Lib.spansFromP,Lib.closeSpans,opn,fldA,flushX]
   | some a=>
     have:=hst a rfl;have hne:l.drop a≠[]:=by simp;omega
     simp only[Lib.spansFromP,Lib.closeSpans,opn,fldA,List.take_length,List.map_append,List.map_cons,List.map_nil,pcs,tx_size];rw[flush_ne hne]
 | f+1,pos,st,acc,h,hp,hst=>by
   by_cases hlt:pos<l.length
   ·have hc:l[pos]? =some l[pos]:=List.getElem?_eq_getElem hlt
    obtain⟨c,hcc⟩: ∃c,l[pos]=c:=⟨_,rfl⟩;rw[hcc]at hc;have hd:l.drop pos=c::l.drop (pos+1):=by rw[List.drop_eq_getElem_cons hlt,hcc]
    unfold Lib.spansFromP;rw[if_pos (by rw[tx_size];exact hlt)];rcases rune_at l pos c hc with⟨h1,h2⟩|⟨h1,h2,h3,h4,h5⟩
    ·rw[h2]
     simp only;rw[runeB_byte];have one:(l.drop pos).take 1=[c]:=by rw[hd];rfl
     cases hb:blankC c with
     | true=>
       simp only[if_true];cases st with
       | none=>
         rw[<-spans_fld l f (pos+1) none acc (by omega) (by omega) (fun a h=>by cases h),hd,fA_blank _ _ hb];rfl
       | some a=>
         have ha:=hst a rfl;rw[<-spans_fld l f (pos+1) none _ (by omega) (by omega) (fun a h=>by cases h),hd,fA_blank _ _ hb]
         have hne:(l.take pos).drop a≠[]:=by
          intro e;have:=congrArg List.length e;rw[List.length_drop,List.length_take]at this;simp only[List.length_nil]at this;omega
         show _++(flushX ((l.take pos).drop a)++_)=_;rw[flush_ne hne,List.map_append,List.append_assoc];rfl
     | false=>
       simp only[Bool.false_eq_true,if_false];cases st with
       | none=>
         rw[<-spans_fld l f (pos+1) (some pos) acc (by omega) (by omega) (fun a h=>by cases h;omega),hd,fA_in _ _ hb];show _++fldA ([]++[c]) _=_++fldA ((l.take (pos+1)).drop pos) _;rw[take_more l pos pos 1 (Nat.le_refl _) (by omega),one];simp
       | some a=>
         have ha:=hst a rfl;rw[<-spans_fld l f (pos+1) (some a) acc (by omega) (by omega) (fun b h=>by cases h;omega),hd,fA_in _ _ hb];show _++fldA ((l.take pos).drop a++[c]) _=_++fldA ((l.take (pos+1)).drop a) _;rw[take_more l a pos 1 (by omega) (by omega),one]
    ·have hr:runeB (Utf8.decode (tx l) pos).1=false:=by unfold runeB;simp;omega
     generalize Utf8.decode (tx l) pos=p at*;obtain⟨r,wd⟩:=p;simp only at hr h3 h4 h5⊢;rw[hr];simp only[Bool.false_eq_true,if_false]
     have hx: ∀c∈(l.drop pos).take wd,blankC c=false:=fun d hd=>by
      obtain⟨j,hj⟩:=List.mem_iff_getElem?.1 hd
      have hjw:j<wd:=by
       have:=(List.getElem?_eq_some_iff.1 hj).1;simp at this;omega
      rw[List.getElem?_take_of_lt hjw,List.getElem?_drop]at hj;exact high_blank (h5 j d hjw hj)
     have hsp:l.drop pos=(l.drop pos).take wd++l.drop (pos+wd):=by rw[<-List.drop_drop,List.take_append_drop]
     cases st with
     | none=>
       rw[<-spans_fld l f (pos+wd) (some pos) acc (by omega) (by omega) (fun a h=>by cases h;omega)]
       conv=>lhs;rw[hsp]
       rw[fA_run _ _ _ hx];show _++fldA ([]++_) _=_++fldA ((l.take (pos+wd)).drop pos) _;rw[take_more l pos pos wd (Nat.le_refl _) h4];simp
     | some a=>
       have ha:=hst a rfl;rw[<-spans_fld l f (pos+wd) (some a) acc (by omega) (by omega) (fun b h=>by cases h;omega)]
       conv=>lhs;rw[hsp]
       rw[fA_run _ _ _ hx];show _++fldA ((l.take pos).drop a++_) _=_++fldA ((l.take (pos+wd)).drop a) _;rw[take_more l a pos wd (by omega) h4]
   ·obtain rfl:pos=l.length:=by omega
    rw[Lib.spansFromP_end _ _ _ _ _ _ (by rw[tx_size];exact hlt),List.drop_length];cases st with
    |none=>simp[Lib.closeSpans,opn,fldA,flushX]
    | some a=>
      have:=hst a rfl;have hne:l.drop a≠[]:=by simp;omega
      simp only[Lib.closeSpans,opn,fldA,List.take_length,List.map_append,List.map_cons,List.map_nil,pcs,tx_size];rw[flush_ne hne]
theorem fields_fld(l:Tx):Lib.goFieldsP runeB (tx l)=(fldA [] l).map tx:=by
 unfold Lib.goFieldsP Lib.spansOfP;have h:=spans_fld l l.length 0 none [] (by omega) (by omega) (fun a h=>by cases h);rw[tx_size];rw[List.map_nil,List.nil_append,List.drop_zero]at h;show _=(fldA (opn l none 0) l).map tx;rw[h,List.map_map];apply List.map_congr_left;intro x hx;exact tx_extract l x.1 x.2
theorem fld_pad: ∀(a u b:Tx),(∀c∈b,blankC c=true)->fldA u (a++b)=fldA u a
 |[],u,[],_=>rfl
 | [],u,c::b,h=>by
   have:=fld_pad [] [] b (fun d hd=>h d (by simp[hd]));rw[List.nil_append]at this;rw[List.nil_append,fA_blank _ _ (h c (by simp)),this];simp[fldA,flushX]
 | x::a,u,b,h=>by
   rw[List.cons_append];cases hb:blankC x with
   |true=>rw[fA_blank _ _ hb,fA_blank _ _ hb,fld_pad a [] b h]
   |false=>rw[fA_in _ _ hb,fA_in _ _ hb,fld_pad a _ b h]
theorem fld_dw: ∀l:Tx,fldA [] (l.dropWhile blankC)=fldA [] l
 |[]=>rfl
 | c::r=>by
   rw[List.dropWhile_cons];split
   ·rename_i h;rw[fld_dw r,fA_blank _ _ h];rfl
   ·rfl
theorem fld_trim(l:Tx):fldA [] (trimT l)=fldA [] l:=by
 obtain⟨b,h1,h2⟩:=rdr_app l;rw[trimT_rdr,fld_dw]
 conv=>rhs;rw[h1]
 exact(fld_pad _ _ _ h2).symm
theorem fld_word{w r:Tx}(h0:w≠[])(h: ∀c∈w,blankC c=false)(hr: ∀c,r.head?=some c->blankC c=true):fldA [] (w++r)=w::fldA [] r:=by
 rw[fA_run _ _ _ h,List.nil_append];cases r with
 |nil=>simp[fldA,flush_ne h0];rfl
 |cons c r=>rw[fA_blank _ _ (hr c rfl),fA_blank _ _ (hr c rfl),flush_ne h0];rfl
theorem fld_some{s:Tx}(h: ∃c∈s,blankC c=false):fldA [] s≠[]:=by
 obtain⟨c,hc,hb⟩:=h;rw[<-fld_dw];have hm:=dw_mem blankC c hb s hc;cases hd:s.dropWhile blankC with
 |nil=>rw[hd]at hm;cases hm
 | cons x t=>
   have hx:blankC x=false:=head_dropWhile (l:=s) (by rw[hd];rfl);have e:x::t=(x::t.takeWhile nb)++t.dropWhile nb:=by simp
   rw[e,fld_word (by simp) (fun c hc=>by
    rcases List.mem_cons.1 hc with rfl|hc
    ·exact hx
    ·have:=List.all_eq_true.1 List.all_takeWhile c hc;unfold nb at this;simpa using this) (fun c hc=>by have:=head_dropWhile hc;unfold nb at this;simpa using this)]
   simp
theorem two_fld{t:Tx}(h:Tr t):twoL t=match fldA [] t with
 |[a,b]=>some (a,b)
 |_=>none:=by
 cases t with
 |nil=>rfl
 | cons x t=>
   have hx:=h.1 x rfl;have e:x::t=(x::t).takeWhile nb++(x::t).dropWhile nb:=by simp
   have hnx:nb x=true:=by unfold nb;rw[hx];rfl
   have hw:fldA [] (x::t)=(x::t).takeWhile nb::fldA [] ((x::t).dropWhile nb):=by
    conv=>lhs;rw[e]
    refine fld_word (by rw[List.takeWhile_cons,if_pos hnx];simp) (fun c hc=>?_) (fun c hc=>?_)
    ·have:=List.all_eq_true.1 List.all_takeWhile c hc;unfold nb at this;simpa using this
    ·have:=head_dropWhile hc;unfold nb at this;simpa using this
   have hlast: ∀c,((x::t).dropWhile nb).dropWhile blankC≠[]->(((x::t).dropWhile nb).dropWhile blankC).getLast?=some c->blankC c=false:=fun c _ hc=>
    h.2 c (last_dropWhile (last_dropWhile hc))
   rw[hw,<-fld_dw];unfold twoL;simp only;have hhead: ∀c,(((x::t).dropWhile nb).dropWhile blankC).head?=some c->blankC c=false:=fun c hc=>head_dropWhile hc
   generalize ((x::t).dropWhile nb).dropWhile blankC=m at*;cases m with
   |nil=>rfl
   | cons y m=>
     have hy:=hhead y rfl;cases hb:(y::m).any blankC with
     | false=>
       rw[if_neg (by simp)]
       have hall: ∀c∈y::m,blankC c=false:=fun c hc=>by
        have:=List.any_eq_false.1 hb c hc;simpa using this
       have:fldA [] ((y::m)++[])=[y::m]:=by
        rw[fld_word (by simp) hall (fun c hc=>by cases hc)];rfl
       rw[List.append_nil]at this;rw[this]
     | true=>
       rw[if_pos (.inr rfl)];have e2:y::m=(y::m).takeWhile nb++(y::m).dropWhile nb:=by simp
       have hny:nb y=true:=by unfold nb;rw[hy];rfl
       have hw2:fldA [] (y::m)=(y::m).takeWhile nb::fldA [] ((y::m).dropWhile nb):=by
        conv=>lhs;rw[e2]
        refine fld_word (by rw[List.takeWhile_cons,if_pos hny];simp) (fun c hc=>?_) (fun c hc=>?_)
        ·have:=List.all_eq_true.1 List.all_takeWhile c hc;unfold nb at this;simpa using this
        ·have:=head_dropWhile hc;unfold nb at this;simpa using this
       have hne:fldA [] ((y::m).dropWhile nb)≠[]:=by
        apply fld_some
        have hm:(y::m).dropWhile nb≠[]:=by
         intro e;obtain⟨c,hc,hcb⟩:=List.any_eq_true.1 hb;have:=dw_nil e c hc;unfold nb at this;rw[hcb]at this;cases this
        obtain⟨z,hz⟩: ∃z,((y::m).dropWhile nb).getLast?=some z:=⟨_,List.getLast?_eq_some_getLast hm⟩;exact⟨z,List.mem_of_getLast? hz,hlast z (by simp) (last_dropWhile hz)⟩
       rw[hw2];cases hf:fldA [] ((y::m).dropWhile nb)with
       |nil=>exact absurd hf hne
       |cons a b=>rfl
end Go.Proofs.YtkbbgjloifmmbaaGreatDoor
namespace Go.Proofs.YtkbbgjloifmmbaaGreatDoor
open Go.RowKit Go.Sort
@[reducible] def cTok(t:Tok):List Value:=[.string (tx t.1),.int .i64 t.2]
theorem cTok_len(t:Tok):(cTok t).length=2:=rfl
theorem tokl:ElT Tryz.prog 182 232 (.agg #[.string ByteArray.empty,.int .i64 0]) 2 24:=⟨Tryz.underlying182,by kernel_rfl,rfl,by decide⟩
theorem Els.tok{w:World}{a:Option Addr}{l:List Tok}(h:Els cTok w a l){k:Nat}{x:Tok}(hk:l[k]? =some x):
 w.cell? ⟨bk a,fo a+k*2,none⟩=some (.string (tx x.1))/\w.cell? ⟨bk a,fo a+k*2+1,none⟩=some (.int .i64 x.2):=
 ⟨h.cell0 cTok_len hk (by omega),h.cell cTok_len hk 1 (by omega)⟩
theorem condBlank:UF blankC 234:=fun c=>blanksF c _ (by decide)
abbrev OwnK(w:World)(B:Nat)(a:Option Addr)(n c:Nat)(l:List Tok):Prop:=Own w B 232 2 a n c (flat cTok l)
def RetK(s:Tx)(w:World)(e:Ending)(w':World):Prop:= ∃a c,e= .returned (.slice a (lex 0 s).length c)/\OwnK w' w.heap.size a (lex 0 s).length c (lex 0 s)/\Below w.heap.size w w'
theorem lex_step{s:Tx}{k:Nat}{c:UInt8}(h:s[k]? =some c):lex k (s.drop k)=if blankC c then lex (k+1) (s.drop (k+1))else((s.drop k).take (longT (s.drop k)),k)::lex (k+longT (s.drop k)) (s.drop (k+longT (s.drop k))):=by
 obtain⟨hlt,rfl⟩:=List.getElem?_eq_some_iff.1 h;rw[List.drop_eq_getElem_cons hlt];split
 ·rename_i hb;rw[lex_blank _ _ hb]
 ·rename_i hb
  rw[lex_tok _ _ (by simpa using hb),<-List.drop_eq_getElem_cons hlt,List.drop_drop]
theorem condTokens(s:Tx)(hl:s.length<=262144)(w:World):Calls Tryz.prog 157 #[.string (tx s)] w (RetK s w):=by
 obtain⟨n,hn⟩: ∃n,(tx s).size=n:=⟨_,rfl⟩;have HN:=hid (show n=s.length by rw[<-hn,tx_size]);have HL:=hid hl;have hnb:n<=262144:=by rw[HN.out];exact hl
 obtain⟨T,hT⟩: ∃T,lex 0 s=T:=⟨_,rfl⟩;have HT:=hid (show lex 0 (s.drop 0)=T by rw[List.drop_zero];exact hT);have HTL:=hid (show T.length<=262144 by rw[<-hT];have:=lex_len _ 0 s (Nat.le_refl _);omega);unfold RetK;rw[hT];clear hl hT;go_enter Tryz.func157,Tryz.ntmps157;go_wp2_with fail
 go_loopw [3,4] (fun o i wr=> ∃(k:Nat) (a:Option Addr) (c:Nat) (out:List Tok),k<=n/\i= .int .i64 k/\o= .slice a out.length c/\OwnK wr w.heap.size a out.length c out/\Hid (T=out++lex k (s.drop k))/\Below w.heap.size w wr) (fun o i _=>n-(intOf i).toNat)
 case atStart=>exact⟨0,none,0,[],by omega,rfl,rfl,Own.nil _ _ _ _,HT.out.symm,blN⟩
 case round=>
  obtain⟨k,a,c,out,hk,rfl,rfl,hO,HO,E⟩:=hrel
  by_cases hlt:k<n
  ·obtain⟨x,hx⟩: ∃x,s[k]? =some x:=⟨_,List.getElem?_eq_getElem (by have:=HN.out;omega)⟩
   have ix:=run_ix s k x hx;have hst:=lex_step hx;have HX:=hid hx;clear hx;cases hb:blankC x with
   | true=>
     have HB:=hid hb;have HO2:=hid (show T=out++lex (k+1) (s.drop (k+1)) by rw[HO.out,hst,hb];rfl);clear hb hst
     go_wp2_with (go_at_call 234;refine(condBlank x _).mono ?_;rintro e w' ⟨rfl,rfl⟩;rw[HB.out])
     go_roundw
     case rel=>exact⟨k+1,a,c,out,by omega,by go_num,rfl,hO,HO2,E⟩
     case measure=>simp[intOf];omega
   | false=>
     have HB:=hid hb;rw[hb]at hst
     have hne:s.drop k≠[]:=by
      intro e;have:=congrArg List.length e;have h2:=HN.out;simp at this;omega
     have hdl:(s.drop k).length=n-k:=by rw[List.length_drop,HN.out]
     have CL:=hid (fun w=>condLong (s.drop k) hne (by have:=HL.out;simp;omega) w)
     have hlp:1<=longT (s.drop k)/\longT (s.drop k)<=n-k:=by
      rw[<-hdl];cases hd:s.drop k with
      |nil=>exact absurd hd hne
      |cons y r=>exact⟨longT_pos y r,longT_le y r⟩
     have sf:=run_strfrom s k (by have:=HN.out;omega);obtain⟨m,hm⟩: ∃m,longT (s.drop k)=m:=⟨_,rfl⟩;rw[hm]at hst hlp CL;have sl:=run_strsl s k (k+m) (by omega) (by have:=HN.out;omega);obtain⟨u,hu⟩: ∃u,(s.take (k+m)).drop k=u:=⟨_,rfl⟩;have hu2:(s.drop k).take m=u:=by rw[<-hu,List.take_add,List.drop_append_of_le_length (by simp;have:=HN.out;omega)];simp
     rw[hu]at sl;rw[hu2]at hst;rw[show((k+m:Nat):Int)=(k:Int)+m by omega]at sl;have HO2:=hid (show T=(out++[(u,k)])++lex (k+m) (s.drop (k+m)) by rw[HO.out,hst];simp)
     have hol:out.length<=262143:=by
      have h1:=HTL.out;have h2:=congrArg List.length HO2.out;simp only[List.length_append,List.length_cons,List.length_nil]at h2;omega
     clear hb hst hne hdl hm hu hu2
     go_wp2_with (first|(go_at_call 234;refine(condBlank x _).mono ?_;rintro e w' ⟨rfl,rfl⟩;rw[HB.out])|fail)
     refine(CL.out _).mono ?_;rintro e w1 ⟨rfl,E1⟩;have hO:=Own.below hO E1;have E:=E.trans (E1.mono E.size)
     go_wp2_with (at_builtin;go_loud(refine wpList_app1 tokl (.tmp 20) (.tmp 29) rfl rfl rfl hO rfl rfl (by intro u hu;simp at hu;rcases hu with rfl|rfl<;>rfl) E E.size (by omega) (by unfold maxLen;omega) ?_))
     intro a' c' w2 hO' hG hB'
     have hO2:OwnK w2 w.heap.size a' (out++[(u,k)]).length c' (out++[(u,k)]):=by
      unfold OwnK;rw[flat_app,flat_one];simpa using hO'
     go_wp2_with fail
     go_roundw
     case rel=>exact⟨k+m,a',c',out++[(u,k)],by omega,by go_num,by simp,hO2,HO2,hB'⟩
     case measure=>simp[intOf];omega
  ·obtain rfl:k=n:=by omega
   have HF:=hid (show T=out by
    rw[HO.out,show s.drop k=[]from List.drop_eq_nil_of_le (by have:=HN.out;omega),lex_nil,List.append_nil])
   go_wp2_with fail;go_ret;have hf:=HF.out;subst hf;exact⟨a,c,rfl,hO,E⟩
end Go.Proofs.YtkbbgjloifmmbaaGreatDoor
namespace Go.Proofs.YtkbbgjloifmmbaaGreatDoor
open Go.RowKit
def RestN(arch:Int)(l:List Nd)(met deep:Nat)(R:Nat × Int):Prop:=walkL arch l met deep=R
@[reducible] def vC(q:Int)(x:Nd):Value:=.agg #[.int .i64 q,.int .i64 x.kind,.int .i64 x.th.thread,.int .i64 x.th.reg,.string (tx x.th.loc),.int .i64 x.val,.slice x.a x.kids.length x.c]
abbrev mkC(q:Int)(x:Nd):Obj:=.cells #[.int .i64 q,.int .i64 x.kind,.int .i64 x.th.thread,.int .i64 x.th.reg,.string (tx x.th.loc),.int .i64 x.val,.slice x.a x.kids.length x.c] 30
theorem condE_q{arch q:Int}{x:Nd}(ha:archB arch=true)(h1:1<=q)(h2:q<=3):condE arch q x=(walkN arch x 0 0).2:=by
 unfold condE;rw[if_neg (by rw[ha];simp),if_neg (by omega)]
theorem condE_bad{arch q:Int}{x:Nd}(ha:archB arch=true)(h:q<1\/3<q):condE arch q x=80:=by
 unfold condE;rw[if_neg (by rw[ha];simp),if_pos h]
theorem condE_arch{arch q:Int}{x:Nd}(ha:archB arch=false):condE arch q x=5:=by
 unfold condE;rw[if_pos ha]
end Go.Proofs.YtkbbgjloifmmbaaGreatDoor
namespace Go.Proofs.YtkbbgjloifmmbaaGreatDoor
open Go.RowKit Go.Sort
abbrev wkC(arch:Int)(seen:Nat)(err:Int):List Value:=[.int .i64 arch,.int .i64 seen,.int .i64 err]
abbrev OwnW(w:World)(B bw:Nat)(arch:Int)(seen:Nat)(err:Int):Prop:=Own w B 170 3 (Option.some ⟨bw,0,none⟩) 1 1 (wkC arch seen err)
theorem OwnW.cells{w:World}{B bw:Nat}{arch err:Int}{seen:Nat}(h:OwnW w B bw arch seen err):w.cell? ⟨bw,0,none⟩=Option.some (.int .i64 arch)/\w.cell? ⟨bw,1,none⟩=Option.some (.int .i64 seen)/\w.cell? ⟨bw,2,none⟩=Option.some (.int .i64 err)/\w.frozen? ⟨bw,1,none⟩=false/\w.frozen? ⟨bw,2,none⟩=false:=by
 have f1:=Own.frozen h (by simp) 1;have f2:=Own.frozen h (by simp) 2;have c0:=(Own.row h).cell 0 (by simp);have c1:=(Own.row h).cell 1 (by simp);have c2:=(Own.row h).cell 2 (by simp);simp only[bk_some,fo_some,Nat.zero_add]at f1 f2 c0 c1 c2;exact⟨c0,c1,c2,f1,f2⟩
theorem BxL.step{w w':World}{b bw:Nat}{l:List Value}(h:BxL w b l)(hs:Step w w' (Option.some ⟨bw,0,none⟩) (Option.some ⟨bw,0,none⟩))(hne:b≠bw):BxL w' b l:=by
 refine⟨Nat.lt_of_lt_of_le h.1 hs.grown.size,fun k hk=>?_⟩;have h1:=h.2 k hk;rw[List.getElem?_eq_getElem hk]at h1⊢;exact hs.grown.cell h1 (by simpa using hne)
def RetNode(w0 w:World)(bw:Nat)(arch:Int)(p:Nat × Int)(e:Ending)(w':World):Prop:=
 e= .returned (.bool (p.2==0))/\Step w w' (some ⟨bw,0,none⟩) (some ⟨bw,0,none⟩)/\ ∃s,OwnW w' w0.heap.size bw arch s p.2/\(p.2=0->s=p.1)
theorem step_below{w w':World}{bw:Nat}(h:Below w.heap.size w w'):Step w w' (some ⟨bw,0,none⟩) (some ⟨bw,0,none⟩):=
 ⟨⟨h.os,h.tape,h.output,h.size,fun k hk _=>h.block k hk⟩,.inl rfl⟩
theorem condNode(arch:Int): ∀(x:Nd) (met deep bw:Nat) (w0 w:World),NdIn w0 x->Below w0.heap.size w0 w->OwnW w w0.heap.size bw arch met 0->met<=1024->deep<=64->
 Calls Tryz.prog 143 #[.pointer (some ⟨bw,0,none⟩),vN x,.int .i64 deep] w (RetNode w0 w bw arch (walkN arch x met deep)):=by
 intro x
 induction x using Nd.ind with
 |h x ih=>
 intro met deep bw w0 w hI hB hO hm hd;obtain⟨p,hp⟩: ∃p,walkN arch x met deep=p:=⟨_,rfl⟩;have hq:=hp;rw[walkN_eq]at hq;rw[hp];clear hp;have hbw:w0.heap.size<=bw/\bw<w.heap.size:=by have:=Own.lt hO (by simp);simpa using this
 have B:=al w (mkN x);have b0:BxL (w.alloc (mkN x)) w.heap.size (cN x):=BxL.new w _ _;have oB:=Own.below hO B;have stB:Step w (w.alloc (mkN x)) (some ⟨bw,0,none⟩) (some ⟨bw,0,none⟩):=step_below B;have hlt:w.heap.size<(w.alloc (mkN x)).heap.size:=by simp
 have HI:=hid hI;have HIH:=hid ih;have HB:=hid hB;have HO:=hid hO;have HQ0:=hid hq;clear hI ih hB hO hq B;go_enter Tryz.func143,Tryz.ntmps143
 go_upto_region 1 with(fail)
 generalize w.alloc (mkN x)=W0 at*;obtain⟨c0,c1,c2,f1,f2⟩:=OwnW.cells oB;obtain⟨o1,st1⟩:=Own.set oB (by simp) 1 (.int .i64 ((met:Int)+1));simp only[bk_some,fo_some,Nat.zero_add]at o1 st1;have b1:=b0.step st1 (by omega);have st1:=stB.trans st1;have o1:OwnW (W0.setCell ⟨bw,1,none⟩ (.int .i64 ((met:Int)+1))) w0.heap.size bw arch (met+1) 0:=o1;clear b0 oB stB;have QQ:=hid (And.intro b1 (And.intro st1 o1));clear b1 st1 o1;have hm9:(met:Int)<=1024:=by omega
 go_upto_region 2 with(fail)
 generalize hW1:W0.setCell ⟨bw,1,none⟩ (.int .i64 ((met:Int)+1))=W1 at*;clear hW1;obtain⟨b1,st1,o1⟩:=QQ.out;clear QQ c0 c1 c2 f1 f2;obtain⟨k0,k1,k2,j1,j2⟩:=OwnW.cells o1;have hq:=HQ0.out;clear HQ0
 by_cases h1:1024<=met\/64<=deep
 ·rw[if_pos h1]at hq
  have HQ:=hid hq.symm;clear hq;obtain⟨o2,st2⟩:=Own.set o1 (by simp) 2 (.int .i64 2);simp only[bk_some,fo_some,Nat.zero_add]at o2 st2;have o2:OwnW (W1.setCell ⟨bw,2,none⟩ (.int .i64 2)) w0.heap.size bw arch (met+1) 2:=o2;have st2:=st1.trans st2;clear b1 st1 o1
  by_cases h2:1024<=met
  ·have z2:(1024:Int)<=met:=by omega
   clear h1;go_wp2_with fail;go_ret;exact⟨ret_bool (by rw[HQ.out];rfl),st2,_,by rw[HQ.out];exact o2,fun h=>by rw[HQ.out]at h;cases h⟩
  ·have z2:(met:Int)<1024:=by omega
   have h3:64<=deep:=by omega
   clear h1;go_wp2_with fail;go_ret;exact⟨ret_bool (by rw[HQ.out];rfl),st2,_,by rw[HQ.out];exact o2,fun h=>by rw[HQ.out]at h;cases h⟩
 ·rw[if_neg h1]at hq
  have h2:met<1024:=by omega
  have h3:deep<64:=by omega
  clear h1;obtain⟨mb,hmb⟩: ∃mb,mayN arch x.kind x.th x.val x.kids.length=mb:=⟨_,rfl⟩;rw[hmb]at hq;have CM:=hid (show ∀w,Calls Tryz.prog 227 #[.int .i64 arch,vN x] w (Ret w (.bool mb))from fun w=>hmb▸condMay arch x HI.out.loc w);clear hmb;have HQ:=hid hq;clear hq;have RR:=hid (And.intro b1 (And.intro st1 o1));have q0:=b1.get 0 _ rfl;have q1:=b1.get 1 _ rfl;have q2:=b1.get 2 _ rfl;have q3:=b1.get 3 _ rfl;have q4:=b1.get 4 _ rfl;have q5:=b1.get 5 _ rfl;clear b1 st1 o1;go_wp2_with fail;have cA:=fun(d:Nat) (os:Array Obj)=>Calls.regrown_of (retc' (CM.out (grow (redrawn W1 d) os)))
  have q0:=cell_regrown q0;have q1:=cell_regrown q1;have q2:=cell_regrown q2;have q3:=cell_regrown q3;have q4:=cell_regrown q4;have q5:=cell_regrown q5;have k0:=cell_regrown k0;refine wp_region_quiet_below (by kernel_rfl) (by kernel_rfl) ?_
  repeat(go_big_quiet_step (exact cA _ _))
  refine wpQuiet_nil ?_;intro _ hw';obtain⟨⟨dq,osq⟩,hw''⟩:=hw';subst hw'';have EQ':=below_regrown W1 dq osq;generalize grow (redrawn W1 dq) osq=wq at*;obtain⟨b1,st1,o1⟩:=RR.out;have b1:=b1.below EQ';have o1:=Own.below o1 EQ';have st1:=st1.trans (step_below EQ');clear q0 q1 q2 q3 q4 q5 k0 k1 k2 j1 j2 cA RR EQ';have hqq:=HQ.out;clear HQ;cases mb
  ·have HQ:=hid (show p=(met,(80:Int)) by simpa using hqq.symm)
   clear hqq;obtain⟨k0,k1,k2,j1,j2⟩:=OwnW.cells o1;obtain⟨o2,st2⟩:=Own.set o1 (by simp) 2 (.int .i64 80);simp only[bk_some,fo_some,Nat.zero_add]at o2 st2;have o2:OwnW (wq.setCell ⟨bw,2,none⟩ (.int .i64 80)) w0.heap.size bw arch (met+1) 80:=o2;have st2:=st1.trans st2;clear b1 st1 o1;go_wp2_with fail;go_ret;exact⟨ret_bool (by rw[HQ.out];rfl),st2,_,by rw[HQ.out];exact o2,fun h=>by rw[HQ.out]at h;cases h⟩
  ·have HQ:=hid (show walkL arch x.kids (met+1) (deep+1)=p by simpa using hqq)
   clear hqq;simp only[Bool.not_true];obtain⟨b,hb⟩: ∃b,w.heap.size=b:=⟨_,rfl⟩;rw[hb]at b1 hlt⊢;have hbb:b≠bw:=by omega
   clear hb;have q5:=b1.get 5 _ rfl;go_wp2_with fail;clear q5
   go_loopw [43] (fun i wr=> ∃k m:Nat,k<=x.kids.length/\i= .int .i64 k/\m<=1024/\Step w wr (some ⟨bw,0,none⟩) (some ⟨bw,0,none⟩)/\BxL wr b (cN x)/\OwnW wr w0.heap.size bw arch m 0/\Hid (RestN arch (x.kids.drop k) m (deep+1) p)) (fun i _=>x.kids.length-(intOf i).toNat)
   case atStart=>exact⟨0,met+1,Nat.zero_le _,rfl,by omega,st1,b1,o1,HQ.out⟩
   case round=>
    obtain⟨k,m,hk,rfl,hm1,st,br,oW,HR⟩:=hrel;have q5:=br.get 5 _ rfl;have hbr:=st.below HO.out HB.out HB.out.size;have hIr:=HI.out.keep hbr
    by_cases hlk:k<x.kids.length
    ·obtain⟨y,hy⟩: ∃y,x.kids[k]? =some y:=⟨_,List.getElem?_eq_getElem hlk⟩
     obtain⟨p0,p1,p2,p3,p4,p5⟩:=hIr.els.nd hy;have ix:=hIr.els.idx ndl cN_len k hlk x.c;have hkl:=hIr.els.len;have oA:=Own.below oW (al wr (mkN y));have bA:=br.below (al wr (mkN y));have sA:=st.trans (step_below (al wr (mkN y)));have CY:=HIH.out y (List.mem_of_getElem? hy) m (deep+1) bw w0 (wr.alloc (mkN y)) (HI.out.kid y (List.mem_of_getElem? hy)) (hbr.alloc hbr.size _) oA hm1 (by omega);have hle:=walk_le arch y m (deep+1) hm1;have hst:=HR.out;unfold RestN at hst;rw[walkL_drop hy]at hst;rw[show((deep+1:Nat):Int)=(deep:Int)+1 by omega]at CY;generalize walkN arch y m (deep+1)=r at*;obtain⟨m2,e2⟩:=r;simp only at hst hle;have CY:=hid CY;clear hy hIr HR br oW oA st
     by_cases he:e2=0
     ·subst he
      rw[if_pos rfl]at hst;have HST:=hid (show RestN arch (x.kids.drop (k+1)) m2 (deep+1) p from hst);clear hst;go_wp2_with fail;refine CY.out.mono ?_;rintro e w2 ⟨rfl,s2,s,oS,hs⟩;obtain rfl:=hs rfl;have b2:=bA.step s2 hbb;have st:=sA.trans s2;clear q5 p0 p1 p2 p3 p4 p5 ix sA bA s2;go_wp2_with fail
      go_roundw
      case rel=>exact⟨k+1,s,by omega,by go_num,hle,st,b2,oS,HST⟩
      case measure=>simp[intOf];omega
     ·rw[if_neg he]at hst
      have ze:(e2==0)=false:=by simpa using he
      have HST:=hid hst.symm;clear hst he;go_wp2_with fail;refine CY.out.mono ?_;rintro e w2 ⟨rfl,s2,s,oS, -⟩;have st:=sA.trans s2;simp only[ze];clear q5 p0 p1 p2 p3 p4 p5 ix sA bA s2;go_wp2_with fail;go_ret;exact⟨ret_bool (by rw[HST.out];exact ze.symm),st,s,by rw[HST.out];exact oS,fun h=>by rw[HST.out]at h;rw[show e2=0 from h]at ze;cases ze⟩
    ·obtain rfl:k=x.kids.length:=by omega
     have hst:=HR.out;unfold RestN at hst;rw[List.drop_length,walkL_nil]at hst;have HST:=hid hst.symm;clear hst HR;go_wp2_with fail;go_ret;exact⟨ret_bool (by rw[HST.out];rfl),st,m,by rw[HST.out];exact oW,fun _=>by rw[HST.out]⟩
theorem condCheck(arch q:Int)(x:Nd)(w:World)(hI:NdIn w x):
 Calls Tryz.prog 71 #[.int .i64 arch,vC q x] w (Ret w (.int .i64 (condE arch q x))):=by
 have B:=al w (mkC q x);obtain⟨ab,hab⟩: ∃ab,archB arch=ab:=⟨_,rfl⟩;have CA:=hid (show ∀w,Calls Tryz.prog 142 #[.int .i64 arch] w fun e w'=>e= .returned (.bool ab)/\w=w' from fun w=>hab▸condKnown arch w);cases ab
 ·have HE:=hid (condE_arch (q:=q) (x:=x) hab)
  clear hab;go_enter Tryz.func71,Tryz.ntmps71
  go_wp2_with (go_at_call 142;refine(CA.out _).mono ?_;rintro e w' ⟨rfl,rfl⟩)
  go_ret;exact⟨ret_int HE.out.symm,blN⟩
 ·by_cases h1:q<1
  ·have HE:=hid (condE_bad (x:=x) hab (.inl h1))
   clear hab;go_enter Tryz.func71,Tryz.ntmps71
   go_wp2_with (go_at_call 142;refine(CA.out _).mono ?_;rintro e w' ⟨rfl,rfl⟩)
   go_ret;exact⟨ret_int HE.out.symm,blN⟩
  by_cases h2:q<=3
  ·have h1:1<=q:=by omega
   have B2:=al (w.alloc (mkC q x)) (.cells #[.int .i64 arch,.int .i64 0,.int .i64 0] 170)
   have oW:OwnW ((w.alloc (mkC q x)).alloc (.cells #[.int .i64 arch,.int .i64 0,.int .i64 0] 170)) (w.alloc (mkC q x)).heap.size (w.alloc (mkC q x)).heap.size arch 0 0:=
    World.ownsRow_lit (w.alloc (mkC q x)) #[.int .i64 arch,.int .i64 0,.int .i64 0] 1 (Nat.le_refl _) (by unfold maxLen;omega) (by simp)
   have CW:=condNode arch x 0 0 (w.alloc (mkC q x)).heap.size (w.alloc (mkC q x)) _ (hI.keep B) B2 oW (by omega) (by omega);have HE:=hid (condE_q (x:=x) hab h1 h2);generalize walkN arch x 0 0=r at*;obtain⟨m2,e2⟩:=r;have hsz:(w.alloc (mkC q x)).heap.size=w.heap.size+1:=by simp
   have CW:=hid CW;have HO:=hid oW;have HS:=hid hsz;rw[hsz]at CW;clear hab hI oW hsz;go_enter Tryz.func71,Tryz.ntmps71
   go_wp2_with (go_at_call 142;refine(CA.out _).mono ?_;rintro e w' ⟨rfl,rfl⟩)
   refine CW.out.mono ?_;rintro e w2 ⟨rfl,s2,s,oS, -⟩;have hO:=HO.out;rw[HS.out]at hO;have B3:=s2.below hO (by rw[<-HS.out];exact B2) (by simp);have B:=B.trans (B3.mono (by simp));obtain⟨c0,c1,c2,f1,f2⟩:=OwnW.cells oS;clear oS s2 B2 B3 hO;go_wp2_with fail;go_ret;exact⟨ret_int HE.out.symm,blN⟩
  ·have HE:=hid (condE_bad (q:=q) (x:=x) hab (.inr (by omega)))
   have h1:1<=q:=by omega
   clear hab;go_enter Tryz.func71,Tryz.ntmps71
   go_wp2_with (go_at_call 142;refine(CA.out _).mono ?_;rintro e w' ⟨rfl,rfl⟩)
   go_ret;exact⟨ret_int HE.out.symm,blN⟩
abbrev rdC(arch:Int)(s:Tx)(a:Option Addr)(n c:Nat)(k:Int):List Value:=[.int .i64 arch,.string (tx s),.slice a n c,.int .i64 k]
structure Rdr(w:World)(B rb:Nat)(arch:Int)(s:Tx)(a:Option Addr)(c:Nat)(L:List Tok)(k:Nat):Prop where
 own:Own w B 185 4 (Option.some ⟨rb,0,none⟩) 1 1 (rdC arch s a L.length c k)
 toks:Els cTok w a L
 ne:L≠[]->bk a≠rb
 le:k<=L.length
 sm:L.length<=262144
 sl:s.length<=262144
section
variable {w:World} {B rb:Nat} {arch:Int} {s:Tx} {a:Option Addr} {c:Nat} {L:List Tok} {k:Nat}
theorem Rdr.cells(h:Rdr w B rb arch s a c L k):w.cell? ⟨rb,0,none⟩=Option.some (.int .i64 arch)/\w.cell? ⟨rb,1,none⟩=Option.some (.string (tx s))/\w.cell? ⟨rb,2,none⟩=Option.some (.slice a L.length c)/\w.cell? ⟨rb,3,none⟩=Option.some (.int .i64 k)/\w.frozen? ⟨rb,3,none⟩=false/\rb<w.heap.size:=by
 have f3:=Own.frozen h.own (by simp) 3;have c0:=(Own.row h.own).cell 0 (by simp);have c1:=(Own.row h.own).cell 1 (by simp);have c2:=(Own.row h.own).cell 2 (by simp);have c3:=(Own.row h.own).cell 3 (by simp);have lt:=Own.lt h.own (by simp);simp only[bk_some,fo_some,Nat.zero_add]at f3 c0 c1 c2 c3 lt;exact⟨c0,c1,c2,c3,f3,lt.2⟩
theorem Rdr.below{w':World}(h:Rdr w B rb arch s a c L k)(hb:Below w.heap.size w w'):Rdr w' B rb arch s a c L k:=
 ⟨Own.below h.own hb,h.toks.below hb,h.ne,h.le,h.sm,h.sl⟩
theorem Els.step{α:Type}{enc:α->List Value}{m:Nat}{w w':World}{a:Option Addr}{l:List α}{rb:Nat}(hm: ∀x,(enc x).length=m)(hpos:0<m)(h:Els enc w a l)(hs:Step w w' (Option.some ⟨rb,0,none⟩) (Option.some ⟨rb,0,none⟩))(hne:l≠[]->bk a≠rb):Els enc w' a l:=by
 refine⟨⟨h.row.head,fun i hi=>?_⟩,h.len⟩;have h1:=h.row.cell i hi;rw[List.getElem?_eq_getElem hi]at h1⊢;refine hs.grown.cell h1 ?_;have hl:l≠[]:=by intro e;subst e;simp[flat]at hi
 have:=hne hl;simpa using this
theorem Rdr.next(h:Rdr w B rb arch s a c L k)(hk:k<L.length):Rdr (w.setCell ⟨rb,3,none⟩ (.int .i64 ((k:Int)+1))) B rb arch s a c L (k+1)/\Step w (w.setCell ⟨rb,3,none⟩ (.int .i64 ((k:Int)+1))) (Option.some ⟨rb,0,none⟩) (Option.some ⟨rb,0,none⟩):=by
 obtain⟨o,st⟩:=Own.set h.own (by simp) 3 (.int .i64 ((k:Int)+1));simp only[bk_some,fo_some,Nat.zero_add]at o st;exact⟨⟨o,Els.step cTok_len (by omega) h.toks st h.ne,h.ne,by omega,h.sm,h.sl⟩,st⟩
end
theorem headS_at{L:List Tok}{k:Nat}{t:Tok}(h:L[k]? =some t):headS (L.drop k)=t.1:=by
 obtain⟨hlt,rfl⟩:=List.getElem?_eq_some_iff.1 h;rw[List.drop_eq_getElem_cons hlt];rfl
theorem headS_no{L:List Tok}{k:Nat}(h:L.length<=k):headS (L.drop k)=[]:=by rw[List.drop_eq_nil_of_le h];rfl
theorem stop_at{L:List Tok}{k N:Nat}{t:Tok}(h:L[k]? =some t):stopAt N (L.drop k)=t.2:=by
 obtain⟨hlt,rfl⟩:=List.getElem?_eq_some_iff.1 h;rw[List.drop_eq_getElem_cons hlt];rfl
theorem stop_no{L:List Tok}{k N:Nat}(h:L.length<=k):stopAt N (L.drop k)=N:=by rw[List.drop_eq_nil_of_le h];rfl
theorem ret_tx{a b:Tx}(h:a=b):Ending.returned (.string (tx a))= .returned (.string (tx b)):=by rw[h]
theorem condPeek{w:World}{B rb:Nat}{arch:Int}{s:Tx}{a:Option Addr}{c:Nat}{L:List Tok}{k:Nat}(R:Rdr w B rb arch s a c L k)(d:Nat)(hd:d<=1):
 Calls Tryz.prog 236 #[.pointer (some ⟨rb,0,none⟩),.int .i64 d] w (RetQ w (.string (tx (headS (L.drop (k+d)))))):=by
 obtain⟨c0,c1,c2,c3,f3,lt⟩:=R.cells;have hle:=R.le;have hsm:=R.sm
 by_cases hk:k+d<L.length
 ·obtain⟨t,ht⟩: ∃t,L[k+d]? =some t:=⟨_,List.getElem?_eq_getElem hk⟩
  obtain⟨d0,d1⟩:=R.toks.tok ht;have ix:=R.toks.idx tokl cTok_len (k+d) hk c;rw[show((k+d:Nat):Int)=(k:Int)+d by omega]at ix;have HF:=hid (headS_at ht);clear ht R;obtain⟨u,hu⟩: ∃u,headS (L.drop (k+d))=u:=⟨_,rfl⟩;rw[hu]at HF⊢;generalize L.length=n at*;have z:decide ((k:Int)+d<(n:Int))=true:=by simp;omega
  clear hu;go_enter Tryz.func236,Tryz.ntmps236;go_wp2_with fail
  go_big_region
  all_goals go_wp2_with fail
  all_goals go_big_region
  all_goals go_wp2_with fail
  all_goals go_ret
  all_goals exact⟨ret_tx HF.out.symm,(by repeat(first|exact QW.refl _|refine QW.d ?_ _))⟩
 ·have HF:=hid (headS_no (L:=L) (k:=k+d) (by omega))
  clear R;obtain⟨u,hu⟩: ∃u,headS (L.drop (k+d))=u:=⟨_,rfl⟩;rw[hu]at HF⊢;generalize L.length=n at*;have z:decide ((k:Int)+d<(n:Int))=false:=by simp;omega
  clear hu;go_enter Tryz.func236,Tryz.ntmps236;go_wp2_with fail
  go_big_region
  all_goals go_wp2_with fail
  all_goals go_ret
  all_goals exact⟨by rw[HF.out];rfl,(by repeat(first|exact QW.refl _|refine QW.d ?_ _))⟩
def PanC(n:Int):Ending:=.panicked [{ v:=.iface 180 (.agg #[.int .i64 n]),recovered:=false }]
theorem panC_eq{m n:Int}(h:m=n):PanC m=PanC n:=by rw[h]
theorem condFail{w:World}{B rb:Nat}{arch:Int}{s:Tx}{a:Option Addr}{c:Nat}{L:List Tok}{k:Nat}(R:Rdr w B rb arch s a c L k):
 Calls Tryz.prog 239 #[.pointer (some ⟨rb,0,none⟩)] w fun e w'=>e=PanC (stopAt s.length (L.drop k))/\QW w w':=by
 obtain⟨c0,c1,c2,c3,f3,lt⟩:=R.cells;have hle:=R.le;have hsm:=R.sm;have hsl:=R.sl
 by_cases hk:k<L.length
 ·obtain⟨t,ht⟩: ∃t,L[k]? =some t:=⟨_,List.getElem?_eq_getElem hk⟩
  obtain⟨d0,d1⟩:=R.toks.tok ht;have ix:=R.toks.idx tokl cTok_len k hk c;have HF:=hid (stop_at (N:=s.length) ht);clear ht R;obtain⟨u,hu⟩: ∃u,stopAt s.length (L.drop k)=u:=⟨_,rfl⟩;rw[hu]at HF⊢;generalize L.length=n at*;have z:decide ((k:Int)<(n:Int))=true:=by simp;omega
  clear hu;go_enter Tryz.func239,Tryz.ntmps239;go_wp2_with fail
  go_big_region
  all_goals go_wp2_with fail
  all_goals go_region_dies
  all_goals(try go_wp2_with fail)
  all_goals exact⟨rfl,panC_eq (by rw[HF.out]),(by repeat(first|exact QW.refl _|refine QW.d ?_ _))⟩
 ·have HF:=hid (stop_no (N:=s.length) (L:=L) (k:=k) (by omega))
  clear R;obtain⟨u,hu⟩: ∃u,stopAt s.length (L.drop k)=u:=⟨_,rfl⟩;rw[hu]at HF⊢;generalize L.length=n at*;have hsz:(tx s).size=s.length:=tx_size s;have z:decide ((k:Int)<(n:Int))=false:=by simp;omega
  clear hu;go_enter Tryz.func239,Tryz.ntmps239;go_wp2_with fail
  go_big_region
  all_goals go_wp2_with fail
  all_goals exact⟨rfl,panC_eq (by rw[HF.out]),(by repeat(first|exact QW.refl _|refine QW.d ?_ _))⟩
end Go.Proofs.YtkbbgjloifmmbaaGreatDoor
