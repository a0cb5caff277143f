/- What ReadPiecesP leans on, part 34. -/
import Derived.Test.YtkbbgjloifmmbaaGreatDoorRp33
set_option linter.unusedVariables false
set_option maxRecDepth 100000
set_option maxHeartbeats 6400000
namespace Go.Proofs.YtkbbgjloifmmbaaGreatDoor
def segT(s:Tx)(a b:Nat):Tx:=(s.take b).drop a
theorem segT_len{s:Tx}{a b:Nat}(hb:b<=s.length):(segT s a b).length=b-a:=by unfold segT;rw[List.length_drop,List.length_take];omega
theorem segT_at{s:Tx}{a b i:Nat}(h:a+i<b):(segT s a b)[i]? =s[a+i]? :=by
 unfold segT;rw[List.getElem?_drop,List.getElem?_take_of_lt h]
theorem segT_nil(s:Tx)(a:Nat):segT s a a=[]:=by unfold segT;exact List.drop_eq_nil_of_le (by rw[List.length_take];omega)
theorem segT_more{s:Tx}{a b k:Nat}(h:a<=b)(hk:b+k<=s.length):segT s a (b+k)=segT s a b++(s.drop b).take k:=by
 unfold segT;rw[List.take_add,List.drop_append_of_le_length (by rw[List.length_take];omega)]
theorem linesF_skip: ∀(u cur:Tx) (f:Nat) (r:Tx),(∀c∈u,c≠10)->linesF cur f (u++r)=linesF (cur++u) f r
 |[],cur,f,r,_=>by rw[List.append_nil];rfl
 | c::u,cur,f,r,h=>by
   rw[List.cons_append,linesF,if_neg (h c (by simp)),linesF_skip u _ f r (fun d hd=>h d (by simp[hd])),List.append_assoc];rfl
theorem lines_nl{s:Tx}{f p:Nat}(hfp:f<=p)(hp:s[p]? =some 10):linesF (segT s f p) f (s.drop p)=(noCR (segT s f p),f)::linesF (segT s (p+1) (p+1)) (p+1) (s.drop (p+1)):=by
 obtain⟨h1,h2⟩:=List.getElem?_eq_some_iff.1 hp;rw[List.drop_eq_getElem_cons h1,h2,linesF,if_pos rfl,segT_len (by omega),segT_nil,show f+(p-f)+1=p+1 by omega]
theorem lines_in{s:Tx}{f p k:Nat}(hfp:f<=p)(hk:p+k<=s.length)(h: ∀i c,i<k->s[p+i]? =some c->c≠10):linesF (segT s f p) f (s.drop p)=linesF (segT s f (p+k)) f (s.drop (p+k)):=by
 rw[segT_more hfp hk]
 conv=>lhs;rw[<-List.take_append_drop k (s.drop p)]
 rw[linesF_skip,List.drop_drop];intro c hc;obtain⟨i,hi,e⟩:=List.getElem_of_mem hc;rw[List.length_take,List.length_drop]at hi;refine h i c (by omega) ?_;rw[List.getElem_take,List.getElem_drop]at e;rw[<-e];exact List.getElem?_eq_getElem _
theorem lines_end(s:Tx)(f:Nat)(hf:f<=s.length):linesF (segT s f s.length) f (s.drop s.length)=if f<s.length then[(noCR (segT s f s.length),f)]else[]:=by
 rw[List.drop_length,linesF];have:=segT_len (s:=s) (a:=f) (b:=s.length) (Nat.le_refl _)
 by_cases h:f<s.length
 ·rw[if_pos h,if_neg (by intro e;rw[e]at this;simp at this;omega)]
 ·rw[if_neg h,if_pos (List.eq_nil_of_length_eq_zero (by omega))]
theorem noCR_seg{s:Tx}{f p:Nat}(hp:p<=s.length):noCR (segT s f p)=if f<p/\s[p-1]? =some 13 then segT s f (p-1)else segT s f p:=by
 unfold noCR;have hl:=segT_len (s:=s) (a:=f) hp
 by_cases hf:f<p
 ·have e:(segT s f p).getLast?=s[p-1]? :=by
   rw[List.getLast?_eq_getElem?,hl,segT_at (by omega),show f+(p-f-1)=p-1 by omega]
  rw[e]
  by_cases h13:s[p-1]? =some 13
  ·rw[if_pos h13,if_pos ⟨hf,h13⟩,List.dropLast_eq_take,hl]
   unfold segT;rw[List.take_drop,List.take_take,show f+(p-f-1)=p-1 by omega,Nat.min_eq_left (by omega)]
  ·rw[if_neg h13,if_neg (by rintro⟨-, h⟩;exact h13 h)]
 ·have hz:segT s f p=[]:=List.eq_nil_of_length_eq_zero (by omega)
  rw[hz,if_neg (by decide),if_neg (by rintro⟨h, -⟩;exact hf h)]
theorem linesF_len: ∀(r cur:Tx) (f:Nat),(linesF cur f r).length<=r.length+1
 |[],cur,f=>by rw[linesF];split<;>simp
 | c::r,cur,f=>by
   rw[linesF];split
   ·have:=linesF_len r [] (f+cur.length+1);simp;omega
   ·have:=linesF_len r (cur++[c]) f;simp;omega
theorem linesV_len(s:Tx):(linesV s).length<=s.length+1:=linesF_len s [] 0
end Go.Proofs.YtkbbgjloifmmbaaGreatDoor
namespace Go.Proofs.YtkbbgjloifmmbaaGreatDoor
open Go.RowKit
theorem isl1:ElT Tryz.prog 41 3 (.int .i64 0) 1 8:=⟨Tryz.underlying41,by kernel_rfl,rfl,by decide⟩
def lnT(L:List (Tx × Nat)):List Value:=L.map fun x=>Value.string (tx x.1)
def lnI(L:List (Tx × Nat)):List Value:=L.map fun x=>Value.int .i64 (x.2:Int)
structure OwnLn(w:World)(B:Nat)(a:Option Addr)(c:Nat)(b:Option Addr)(d:Nat)(L:List (Tx × Nat)):Prop where
 t:Own w B 9 1 a L.length c (lnT L)
 i:Own w B 3 1 b L.length d (lnI L)
 ap:Apart a b
theorem OwnLn.nil(w:World)(B:Nat):OwnLn w B none 0 none 0 []:=⟨Own.nil _ _ _ _,Own.nil _ _ _ _,.inl rfl⟩
theorem OwnLn.below{w w':World}{B c d:Nat}{a b:Option Addr}{L:List (Tx × Nat)}(h:OwnLn w B a c b d L)(hb:Below w.heap.size w w'):OwnLn w' B a c b d L:=⟨h.t.below hb,h.i.below hb,h.ap⟩
def RetLn(s:Tx)(w:World)(e:Ending)(w':World):Prop:=Below w.heap.size w w'/\
 ((262144<s.length/\e= .returned (.tuple #[.slice none 0 0,.slice none 0 0,.int .i64 2]))\/
 (s.length<=262144/\ ∃a c b d,e= .returned (.tuple #[.slice a (linesV s).length c,.slice b (linesV s).length d,.int .i64 0])/\OwnLn w' w.heap.size a c b d (linesV s)))
theorem grownIter(w:World)(k:Nat)(s:ByteArray)(p:Nat):w.grownBy (w.iterAt k s p) (Option.some k):=
 ⟨rfl,rfl,rfl,by rw[Lib.iterAt_size];exact Nat.le_refl _,fun j hj hne=>Lib.iterAt_other w k j s p (fun e=>hne (by rw[e]))⟩
structure LnW(B:Nat)(s:Tx)(p:Nat)(a:Option Addr)(c:Nat)(b:Option Addr)(d:Nat)(L:List (Tx × Nat))(w0 w:World):Prop where
 ln:OwnLn w (B+1) a c b d L
 it:w.heap[B]? =some (.stringIter (tx s) p)
 bel:Below B w0 w
theorem LnW.lt{B p c d:Nat}{s:Tx}{a b:Option Addr}{L:List (Tx × Nat)}{w0 w:World}(h:LnW B s p a c b d L w0 w):B+1<=w.heap.size:=(Array.getElem?_eq_some_iff.1 h.it).1
theorem Own.far{w:World}{B E size n c:Nat}{a:Option Addr}{xs:List Value}(h:Own w (B+1) E size a n c xs):a=none\/Option.some (bk a)≠Option.some B:=by
 cases a with
 |none=>exact .inl rfl
 |some x=>exact .inr (fun e=>by have:=(Own.lt h (by simp)).1;have:=Option.some.inj e;omega)
theorem LnW.next{B p c d:Nat}{s:Tx}{a b:Option Addr}{L:List (Tx × Nat)}{w0 w:World}(h:LnW B s p a c b d L w0 w)(q:Nat):LnW B s q a c b d L w0 (w.iterAt B (tx s) q):=
 ⟨⟨h.ln.t.kept (grownIter ..) h.ln.t.far,h.ln.i.kept (grownIter ..) h.ln.i.far,h.ln.ap⟩,Lib.iterAt_heap w B (tx s) p q h.it,Lib.below_iterAt h.bel (Nat.le_refl _) _ _⟩
theorem LnW.app{B p c d c3 d4:Nat}{s:Tx}{a a3 b b4:Option Addr}{L:List (Tx × Nat)}{w0 w w3 w4:World}(h:LnW B s p a c b d L w0 w)(y:Tx)(g:Nat)
 (o3:Own w3 (B+1) 9 1 a3 (L.length+1) c3 (lnT L++[.string (tx y)])) (g3:Grew w w3 a c a3 c3) (B3:Below (B+1) w w3)
 (o4:Own w4 (B+1) 3 1 b4 (L.length+1) d4 (lnI L++[.int .i64 g])) (g4:Grew w3 w4 b d b4 d4) (B4:Below (B+1) w3 w4):LnW B s p a3 c3 b4 d4 (L++[(y,g)]) w0 w4:=by
 obtain⟨oi,ap⟩:=h.ln.i.step g3.step h.ln.ap.symm;obtain⟨ot,ap2⟩:=o3.step g4.step ap.symm;refine⟨⟨?_,?_,ap2⟩,(B4.block B (by omega)).trans ((B3.block B (by omega)).trans h.it),(h.bel.trans (B3.mono (by omega))).trans (B4.mono (by omega))⟩
 ·rw[List.length_append];unfold lnT;rw[List.map_append];exact ot
 ·rw[List.length_append];unfold lnI;rw[List.map_append];exact o4
theorem LnW.ret{p c d:Nat}{s:Tx}{a b:Option Addr}{L:List (Tx × Nat)}{w0 w:World}(h:LnW w0.heap.size s p a c b d L w0 w):OwnLn w w0.heap.size a c b d L:=⟨h.ln.t.mono (Nat.le_succ _),h.ln.i.mono (Nat.le_succ _),h.ln.ap⟩
theorem rune_nl{s:Tx}{p:Nat}{x:UInt8}(hx:s[p]? =some x): ∃r k:Nat,Utf8.decode (tx s) p=(r,k)/\1<=k/\p+k<=s.length/\((r=10/\k=1/\x=10)\/(r≠10/\ ∀i c,i<k->s[p+i]? =some c->c≠10)):=by
 have hlt:=(List.getElem?_eq_some_iff.1 hx).1;rcases rune_at s p x hx with⟨h1,h2⟩|⟨h1,h2,h3,h4,h5⟩
 ·refine⟨_,_,h2,Nat.le_refl _,hlt,?_⟩
  by_cases h:x=10
  ·subst h;exact .inl ⟨rfl,rfl,rfl⟩
  ·refine .inr ⟨fun e=>h (UInt8.toNat_inj.1 e),fun i c hi hc=>?_⟩
   obtain rfl:i=0:=by omega
   rw[Nat.add_zero,hx]at hc;rw[<-Option.some.inj hc];exact h
 ·obtain⟨r,k,hd⟩: ∃r k,Utf8.decode (tx s) p=(r,k):=⟨_,_,rfl⟩
  rw[hd]at h2 h3 h4 h5;simp only at h2 h3 h4 h5;refine⟨r,k,hd,h3,h4,.inr ⟨by omega,fun i c hi hc e=>?_⟩⟩;have:=h5 i c hi hc;rw[e]at this;exact absurd this (by decide)
theorem readLines(s:Tx)(w:World):Calls Tryz.prog 16 #[.string (tx s)] w (RetLn s w):=by
 obtain⟨n,hn⟩: ∃n,s.length=n:=⟨_,rfl⟩;have hsz:(tx s).size=n:=by rw[tx_size,hn]
 have HN:=hid hn
 by_cases hl:262144<n
 ·clear hn
  go_enter Tryz.func16,Tryz.ntmps16;go_wp2_with fail
  go_ret3
  exact⟨Below.refl _ _,.inl ⟨by rw[HN.out];exact hl,rfl⟩⟩
 have hl2:n<=262144:=by omega
 obtain⟨A,hA⟩: ∃A,linesV s=A:=⟨_,rfl⟩;have HA:=hid hA;clear hn hl hA;go_enter Tryz.func16,Tryz.ntmps16;go_wp2_with fail
 go_loopw [5,6,7] (fun o q f wr=> ∃(p g:Nat) (L:List (Tx × Nat)) (a:Option Addr) (c:Nat) (b:Option Addr) (d:Nat),f= .int .i64 g/\g<=p/\p<=n/\o= .slice a L.length c/\q= .slice b L.length d/\L.length<=p/\Hid (LnW w.heap.size s p a c b d L w wr)/\Hid (L++linesF (segT s g p) g (s.drop p)=A)) (fun _ _ _ wr=>n-wr.iterPos w.heap.size)
 case atStart=>
  refine⟨0,0,[],none,0,none,0,rfl,Nat.le_refl _,Nat.zero_le _,rfl,rfl,Nat.le_refl _,hid ⟨OwnLn.nil _ _,?_,?_⟩,hid (by rw[segT_nil];exact HA.out)⟩
  ·simpa using World.iter_heap w (tx s) 0
  ·exact al w _
 case round=>
  obtain⟨p,g,L,a,c,b,d,rfl,hgp,hpn,rfl,rfl,hLp,W,HX⟩:=hrel;have hpos:=hid (iterPos_of W.out.it)
  by_cases hp:p<n
  ·obtain⟨x,hx⟩: ∃x,s[p]? =some x:=⟨_,List.getElem?_eq_getElem (by rw[HN.out];exact hp)⟩
   obtain⟨r,k,hd,hk1,hk2,hr⟩:=rune_nl hx;rw[HN.out]at hk2
   have hnx: ∀ty,(Instr.next (.pointer (some ⟨w.heap.size,0,none⟩)) true ty).run Tryz.prog wr= .ok (.tuple #[.bool true,.int .i64 p,.int .i32 r]) (wr.iterAt w.heap.size (tx s) (p+k)):=fun ty=>by
    rw[Lib.run_next_any_at wr _ (tx s) p ty W.out.it (by rw[hsz];exact hp),hd]
   have W2:=hid (W.out.next (p+k));generalize wr.iterAt w.heap.size (tx s) (p+k)=w2 at*;rcases hr with⟨rfl,rfl,rfl⟩|⟨hr,hno⟩
   rotate_left
   ·have HX2:=hid ((lines_in hgp (by rw[HN.out];exact hk2) hno).symm▸HX.out)
    have z:((r:Int)==10)=false:=by simp;omega
    clear hx hd hno hr W HX;go_wp2_with fail
    go_roundw
    case rel=>exact⟨p+k,g,L,a,c,b,d,rfl,by omega,hk2,rfl,rfl,by omega,W2,HX2⟩
    case measure=>rw[hpos.out,iterPos_of W2.out.it];omega
   have HX2:=hid (lines_nl hgp hx▸HX.out);have sl: ∀w,(Instr.sliceAt 9 (.string (tx s)) (some (.int .i64 g)) (some (.int .i64 p)) none).run Tryz.prog w= .ok (.string (tx (segT s g p))) w:=run_strsl s g p hgp (by rw[HN.out];exact hpn);have TS:=hid (fun w=>show Calls Tryz.prog 41 #[.string (tx (segT s g p)),.string ⟨#[13]⟩] w fun e w'=>e= .returned (.string (tx (noCR (segT s g p))))/\w=w' from trimSuffix_any _ 13 (by rw[segT_len (by rw[HN.out];exact hpn)];omega) w);generalize noCR (segT s g p)=y at*;generalize segT s g p=q at*;have o1:=W2.out.ln.t;have hw2:=W2.out.lt;clear hx hd W HX;go_wp2_with fail;refine(TS.out _).mono ?_;rintro e w' ⟨rfl,rfl⟩
   go_wp2_with (at_builtin;go_loud(refine wpList_app1 txl (.tmp 21) (.tmp 27) rfl rfl rfl o1 rfl rfl (by intro u hu;simp at hu;subst hu;rfl) (Below.refl _ _) hw2 (by omega) (by unfold maxLen;omega) ?_))
   intro a3 c3 w3 o3 g3 B3;have o2:=(W2.out.ln.i.step g3.step W2.out.ln.ap.symm).1;have hw3:=Nat.le_trans hw2 B3.size;have B3:=hid B3;have o3:=hid o3;clear o1
   go_wp2_with (at_builtin;go_loud(refine wpList_app1 isl1 (.tmp 29) (.tmp 31) rfl rfl rfl o2 rfl rfl (by intro u hu;simp at hu;subst hu;rfl) (Below.refl _ _) hw3 (by omega) (by unfold maxLen;omega) ?_))
   intro b4 d4 w4 o4 g4 B4;have W4:=hid (W2.out.app y g o3.out g3 B3.out o4 g4 B4);clear o2 o3 o4 g3 g4 B3 B4;go_wp2_with fail
   go_roundw
   case rel=>exact⟨p+1,p+1,L++[(y,g)],a3,c3,b4,d4,by go_num,Nat.le_refl _,hk2,by simp,by simp,by simp;omega,W4,hid (by rw[<-HX2.out];simp)⟩
   case measure=>rw[hpos.out,iterPos_of W4.out.it];omega
  ·obtain rfl:p=n:=by omega
   have hnx: ∀ty,(Instr.next (.pointer (some ⟨w.heap.size,0,none⟩)) true ty).run Tryz.prog wr= .ok (.tuple #[.bool false]) wr:=fun ty=>Lib.run_next_end_at wr _ (tx s) p ty W.out.it (by rw[hsz];exact hp)
   have HE:=hid (show linesF (segT s g p) g (s.drop p)=if g<p then[(noCR (segT s g p),g)]else[]from HN.out▸lines_end s g (by rw[HN.out];exact hgp))
   by_cases hg:g<p
   rotate_left
   ·have HF:=hid (show L=linesV s by have:=HX.out;rw[HE.out,if_neg hg,List.append_nil]at this;rw[this,HA.out])
    go_wp2_with fail
    go_ret3
    exact⟨W.out.bel,.inr ⟨by rw[HN.out];omega,a,c,b,d,by rw[<-HF.out];rfl,HF.out▸W.out.ret⟩⟩
   have HF:=hid (show L++[(noCR (segT s g p),g)]=linesV s by have:=HX.out;rw[HE.out,if_pos hg]at this;rw[this,HA.out])
   have sl: ∀w,(Instr.sliceAt 9 (.string (tx s)) (some (.int .i64 g)) none none).run Tryz.prog w= .ok (.string (tx (segT s g p))) w:=by
    have:=run_strfrom s g (by rw[HN.out];exact hgp)
    rwa[show s.drop g=segT s g p by unfold segT;rw[List.take_of_length_le (by rw[HN.out];exact Nat.le_refl _)]]at this
   have TS:=hid (fun w=>show Calls Tryz.prog 41 #[.string (tx (segT s g p)),.string ⟨#[13]⟩] w fun e w'=>e= .returned (.string (tx (noCR (segT s g p))))/\w=w' from trimSuffix_any _ 13 (by rw[segT_len (by rw[HN.out];exact hpn)];omega) w);generalize noCR (segT s g p)=y at*;generalize segT s g p=q at*;have o1:=W.out.ln.t;have hw2:=W.out.lt;clear HX HE;go_wp2_with fail;refine(TS.out _).mono ?_;rintro e w' ⟨rfl,rfl⟩
   go_wp2_with (at_builtin;go_loud(refine wpList_app1 txl (.tmp 39) (.tmp 44) rfl rfl rfl o1 rfl rfl (by intro u hu;simp at hu;subst hu;rfl) (Below.refl _ _) hw2 (by omega) (by unfold maxLen;omega) ?_))
   intro a3 c3 w3 o3 g3 B3;have o2:=(W.out.ln.i.step g3.step W.out.ln.ap.symm).1;have hw3:=Nat.le_trans hw2 B3.size;have B3:=hid B3;have o3:=hid o3;clear o1
   go_wp2_with (at_builtin;go_loud(refine wpList_app1 isl1 (.tmp 46) (.tmp 48) rfl rfl rfl o2 rfl rfl (by intro u hu;simp at hu;subst hu;rfl) (Below.refl _ _) hw3 (by omega) (by unfold maxLen;omega) ?_))
   intro b4 d4 w4 o4 g4 B4;have W4:=hid (W.out.app y g o3.out g3 B3.out o4 g4 B4);clear o2 o3 o4 g3 g4 B3 B4;go_wp2_with fail
   go_ret3
   exact⟨W4.out.bel,.inr ⟨by rw[HN.out];omega,a3,c3,b4,d4,by rw[<-HF.out,List.length_append];rfl,HF.out▸W4.out.ret⟩⟩
structure LnD(B:Nat)(a:Option Addr)(c:Nat)(b:Option Addr)(d:Nat)(L:List (Tx × Nat))(w0 w:World):Prop where
 ln:OwnLn w B a c b d L
 bel:Below B w0 w
theorem LnD.app{B c d c3 d4:Nat}{a a3 b b4:Option Addr}{L:List (Tx × Nat)}{w0 w w3 w4:World}(h:LnD B a c b d L w0 w)(y:Tx)(g:Nat)
 (o3:Own w3 B 9 1 a3 (L.length+1) c3 (lnT L++[.string (tx y)])) (g3:Grew w w3 a c a3 c3) (B3:Below B w w3)
 (o4:Own w4 B 3 1 b4 (L.length+1) d4 (lnI L++[.int .i64 g])) (g4:Grew w3 w4 b d b4 d4) (B4:Below B w3 w4):LnD B a3 c3 b4 d4 (L++[(y,g)]) w0 w4:=by
 obtain⟨oi,ap⟩:=h.ln.i.step g3.step h.ln.ap.symm;obtain⟨ot,ap2⟩:=o3.step g4.step ap.symm;refine⟨⟨?_,?_,ap2⟩,(h.bel.trans B3).trans B4⟩
 ·rw[List.length_append];unfold lnT;rw[List.map_append];exact ot
 ·rw[List.length_append];unfold lnI;rw[List.map_append];exact o4
theorem r14Lines(s:Tx)(w:World):Calls Tryz.prog 15 #[.string (tx s)] w (RetLn s w):=by
 obtain⟨n,hn⟩: ∃n,s.length=n:=⟨_,rfl⟩;have hsz:(tx s).size=n:=by rw[tx_size,hn]
 have HN:=hid hn
 by_cases hl:262144<n
 ·clear hn
  go_enter Tryz.func15,Tryz.ntmps15;go_wp2_with fail
  go_ret3
  exact⟨Below.refl _ _,.inl ⟨by rw[HN.out];exact hl,rfl⟩⟩
 have hl2:n<=262144:=by omega
 obtain⟨A,hA⟩: ∃A,linesV s=A:=⟨_,rfl⟩;have HA:=hid hA;clear hn hl hA;go_enter Tryz.func15,Tryz.ntmps15;go_wp2_with fail
 go_loopw [5,6,7,8] (fun o q f i wr=> ∃(p g:Nat) (L:List (Tx × Nat)) (a:Option Addr) (c:Nat) (b:Option Addr) (d:Nat),i= .int .i64 p/\f= .int .i64 g/\g<=p/\p<=n+1/\o= .slice a L.length c/\q= .slice b L.length d/\L.length<=p/\Hid (LnD w.heap.size a c b d L w wr)/\Hid (p<=n->L++linesF (segT s g p) g (s.drop p)=A)/\Hid (p=n+1->L=A)) (fun _ _ _ i _=>n+1-(intOf i).toNat)
 case atStart=>
  exact⟨0,0,[],none,0,none,0,rfl,rfl,Nat.le_refl _,Nat.zero_le _,rfl,rfl,Nat.le_refl _,hid ⟨OwnLn.nil _ _,Below.refl _ _⟩,hid (fun _=>by rw[segT_nil];exact HA.out),hid (fun h=>by omega)⟩
 case round=>
  obtain⟨p,g,L,a,c,b,d,rfl,rfl,hgp,hpn,rfl,rfl,hLp,W,HX,HY⟩:=hrel
  have hc:(p=n+1)\/(n<=p/\p<=n/\p<=g)\/(n<=p/\p<=n/\g<p)\/(p<n/\s[p]? =some 10)\/ ∃x,p<n/\s[p]? =some x/\x≠10:=by
   rcases Nat.lt_or_ge p n with h|h
   ·obtain⟨x,hx⟩: ∃x,s[p]? =some x:=⟨_,List.getElem?_eq_getElem (by rw[HN.out];exact h)⟩
    by_cases e:x=10
    ·subst e;exact .inr (.inr (.inr (.inl ⟨h,hx⟩)))
    ·exact .inr (.inr (.inr (.inr ⟨x,h,hx,e⟩)))
   ·omega
  have HE:=hid (fun(h1:n<=p) (h2:p<=n)=>show linesF (segT s g p) g (s.drop p)=if g<p then[(noCR (segT s g p),g)]else[]from by
   obtain rfl:p=s.length:=by rw[HN.out];omega
   exact lines_end s g hgp)
  rcases hc with hp|⟨hp1,hp2,hg⟩|⟨hp1,hp2,hg⟩|⟨hp,hx⟩|⟨x,hp,hx,hne⟩
  ·have HF:=hid ((HY.out hp).trans HA.out.symm)
   have hp2:n<p:=by omega
   clear hp;go_wp2_with fail
   go_ret3
   exact⟨W.out.bel,.inr ⟨by rw[HN.out];exact hl2,a,c,b,d,by rw[<-HF.out];rfl,HF.out▸W.out.ln⟩⟩
  ·have HF:=hid (show L=A by have:=HX.out hp2;rwa[HE.out hp1 hp2,if_neg (by omega),List.append_nil]at this)
   have z1:((g:Int)==(p:Int))=true:=by simp;omega
   have z7:((p:Int)==(n:Int))=true:=by simp;omega
   go_wp2_with fail
   go_roundw
   case rel=>exact⟨p+1,g,L,a,c,b,d,by go_num,rfl,by omega,by omega,rfl,rfl,by omega,W,hid (fun h=>by omega),hid (fun _=>HF.out)⟩
   case measure=>simp[intOf];omega
  rotate_left 2
  ·have HX2:=hid (fun(_:p+1<=n)=>(lines_in (k:=1) hgp (by rw[HN.out];omega) (fun i c hi hc=>by
    obtain rfl:i=0:=by omega
    rw[Nat.add_zero,hx]at hc;rw[<-Option.some.inj hc];exact hne))▸HX.out (by omega))
   have ix:=run_ix s p x hx;have z1:((x.toNat:Int) != 10)=true:=u8_ne x 10 hne;clear hx hne HX HY HE;go_wp2_with fail
   go_roundw
   case rel=>exact⟨p+1,g,L,a,c,b,d,by go_num,rfl,by omega,by omega,rfl,rfl,by omega,W,HX2,hid (fun h=>by omega)⟩
   case measure=>simp[intOf];omega
  all_goals
   have HZ:=hid (show ∃y,noCR (segT s g p)=y/\(p+1<=n->(L++[(y,g)])++linesF (segT s (p+1) (p+1)) (p+1) (s.drop (p+1))=A)/\(p+1=n+1->L++[(y,g)]=A)from⟨_,rfl,by
    first
     |exact⟨fun h=>by omega,fun _=>by have:=HX.out hp2;rwa[HE.out hp1 hp2,if_pos hg]at this⟩
     |exact⟨fun _=>by have:=HX.out (by omega);rw[lines_nl hgp hx]at this;rw[<-this];simp,fun h=>by omega⟩⟩)
   obtain⟨y,hy,HX2,HY2⟩:=HZ.out;have HX2:=hid HX2;have HY2:=hid HY2;have hns:=noCR_seg (s:=s) (f:=g) (p:=p) (by rw[HN.out];omega);rw[hy]at hns
   have hq:(g<p/\s[p-1]? =some 13/\y=segT s g (p-1))\/(∃x,g<p/\s[p-1]? =some x/\x≠13/\y=segT s g p)\/(p<=g/\y=segT s g p):=by
    by_cases h:g<p/\s[p-1]? =some 13
    ·rw[if_pos h]at hns;exact .inl ⟨h.1,h.2,hns⟩
    ·rw[if_neg h]at hns
     rcases Nat.lt_or_ge g p with h2|h2
     ·exact .inr (.inl ⟨s[p-1]'(by rw[HN.out];omega),h2,List.getElem?_eq_getElem _,fun e=>h ⟨h2,by rw[List.getElem?_eq_getElem (by rw[HN.out];omega),e]⟩,hns⟩)
     ·exact .inr (.inr ⟨h2,hns⟩)
   (try(have ix:=run_ix s p 10 hx
        have z9:(((10:UInt8).toNat:Int) != 10)=false:=by decide
        clear hx))
   (try(have z8:((g:Int)==(p:Int))=false:=by simp;omega))
   (try(have z7:((p:Int)==(n:Int))=true:=by simp;omega))
   clear hns hy HX HY HE HZ;have o1:=W.out.ln.t;have hw2:=W.out.bel.size;rcases hq with⟨hq1,hq2,hq3⟩|⟨x1,hq1,hq2,hq4,hq3⟩|⟨hq1,hq3⟩
   focus
    have i1: ∀w,(Instr.index 9 (.string (tx s)) (.int .i64 ((p:Int)-1))).run Tryz.prog w= .ok (.int .u8 (13:UInt8).toNat) w:=by
     have:=run_ix s (p-1) 13 hq2
     rwa[show((p-1:Nat):Int)=(p:Int)-1 by omega]at this
    have z13:(((13:UInt8).toNat:Int)==13)=true:=by decide
    have sl: ∀w,(Instr.sliceAt 9 (.string (tx s)) (some (.int .i64 g)) (some (.int .i64 ((p:Int)-1))) none).run Tryz.prog w= .ok (.string (tx y)) w:=by
     have:=run_strsl s g (p-1) (by omega) (by rw[HN.out];omega)
     rwa[show((p-1:Nat):Int)=(p:Int)-1 by omega,show(s.take (p-1)).drop g=y from hq3.symm]at this
    clear hq2 hq3
   rotate_left
   focus
    have i1: ∀w,(Instr.index 9 (.string (tx s)) (.int .i64 ((p:Int)-1))).run Tryz.prog w= .ok (.int .u8 x1.toNat) w:=by
     have:=run_ix s (p-1) x1 hq2
     rwa[show((p-1:Nat):Int)=(p:Int)-1 by omega]at this
    have z13:((x1.toNat:Int)==13)=false:=by
     rw[beq_eq_false_iff_ne];intro e;exact hq4 (UInt8.toNat_inj.1 (by have:(13:UInt8).toNat=13:=rfl;omega))
    have sl: ∀w,(Instr.sliceAt 9 (.string (tx s)) (some (.int .i64 g)) (some (.int .i64 (p:Int))) none).run Tryz.prog w= .ok (.string (tx y)) w:=hq3▸run_strsl s g p hgp (by rw[HN.out];omega);clear hq2 hq3 hq4
   rotate_left
   focus
    first
     |(exfalso;omega)
     |(have sl: ∀w,(Instr.sliceAt 9 (.string (tx s)) (some (.int .i64 g)) (some (.int .i64 (p:Int))) none).run Tryz.prog w= .ok (.string (tx y)) w:=hq3▸run_strsl s g p hgp (by rw[HN.out];omega)
       clear hq3)
   rotate_left
   all_goals
    go_wp2_with (at_builtin;go_loud(refine wpList_app1 txl (.tmp 55) (.tmp 60) rfl rfl rfl o1 rfl rfl (by intro u hu;simp at hu;subst hu;rfl) (Below.refl _ _) hw2 (by omega) (by unfold maxLen;omega) ?_))
    intro a3 c3 w3 o3 g3 B3;have o2:=(W.out.ln.i.step g3.step W.out.ln.ap.symm).1;have hw3:=Nat.le_trans hw2 B3.size;have B3:=hid B3;have o3:=hid o3;clear o1
    go_wp2_with (at_builtin;go_loud(refine wpList_app1 isl1 (.tmp 62) (.tmp 64) rfl rfl rfl o2 rfl rfl (by intro u hu;simp at hu;subst hu;rfl) (Below.refl _ _) hw3 (by omega) (by unfold maxLen;omega) ?_))
    intro b4 d4 w4 o4 g4 B4;have W4:=hid (W.out.app y g o3.out g3 B3.out o4 g4 B4);clear o2 o3 o4 g3 g4 B3 B4;go_wp2_with fail
    go_roundw
    case rel=>exact⟨p+1,p+1,L++[(y,g)],a3,c3,b4,d4,by go_num,by go_num,Nat.le_refl _,by omega,by simp,by simp,by simp;omega,W4,HX2,HY2⟩
    case measure=>simp[intOf];omega
end Go.Proofs.YtkbbgjloifmmbaaGreatDoor
namespace Go.Proofs.YtkbbgjloifmmbaaGreatDoor
def thingD(arch:Int)(l:List Tok):Option (Ini × List Tok):=
 if kindT (headS l)=2 then
  (if headS l.tail=[58]then(match numR (headS l),regOfA arch (headS l.tail.tail)with
   |some n,some r=>if 0<=n/\n<16 then some (⟨n,r,[],[],0⟩,l.tail.tail.tail)else none
   |_,_=>none)else none)
 else if headS l=[91]then(if nameB (headS l.tail)=true/\headS l.tail.tail=[93]then some (⟨-1,0,headS l.tail,[],0⟩,l.tail.tail.tail)else none)
 else if nameB (headS l)=true then some (⟨-1,0,headS l,[],0⟩,l.tail)else none
def initD(arch:Int)(l:List Tok):Option Ini:=match thingD arch l with
 |none=>none
 |some (x,r)=>if headS r=[61]then(match valZ (headS r.tail)with
  |some (lc,n)=>if r.tail.tail=[]then some ⟨x.thread,x.reg,x.loc,lc,n⟩else none
  |none=>none)else none
theorem valZ_nil:valZ []=none:=by decide+kernel
theorem numR_no{a:Tx}(h:kindT a≠2):numR a=none:=by
 cases hn:numR a with
 |none=>rfl
 |some v=>exact absurd (kind_numR hn) h
theorem name_no2{a:Tx}(h:kindT a=2):nameB a=false:=by
 cases hn:nameB a with
 |false=>rfl
 |true=>have:=kind_name hn;rw[h]at this;cases this
theorem name_91:nameB [91]=false:=by decide+kernel
def txs(l:List Tok):List Tx:=l.map (·.1)
def afterD(x:Ini)(r:List Tok):Option Ini:=if headS r=[61]then(match valZ (headS r.tail)with
 |some (lc,n)=>if r.tail.tail=[]then some ⟨x.thread,x.reg,x.loc,lc,n⟩else none
 |none=>none)else none
section
variable {arch:Int} {a:Tx} {p:Nat} {l:List Tok} {x:Ini}
theorem initD_af:initD arch l=match thingD arch l with
 |none=>none
 |some (x,r)=>afterD x r:=rfl
theorem tD_num(k:kindT a=2):thingD arch ((a,p)::l)=if headS l=[58]then(match numR a,regOfA arch (headS l.tail)with
 |some n,some r=>if 0<=n/\n<16 then some (⟨n,r,[],[],0⟩,l.tail.tail)else none
 |_,_=>none)else none:=by
 unfold thingD;rw[if_pos (show kindT (headS ((a,p)::l))=2 from k)];rfl
theorem tD_sq:thingD arch (([91],p)::l)=if nameB (headS l)=true/\headS l.tail=[93]then some (⟨-1,0,headS l,[],0⟩,l.tail.tail)else none:=by
 unfold thingD;rw[if_neg (show ¬kindT (headS (([91],p)::l))=2 from(by decide: ¬kindT [91]=2)),if_pos (show headS (([91],p)::l)=[91]from rfl)];rfl
theorem tD_name(k:kindT a≠2)(h:a≠[91]):thingD arch ((a,p)::l)=if nameB a=true then some (⟨-1,0,a,[],0⟩,l)else none:=by
 unfold thingD;rw[if_neg (show ¬kindT (headS ((a,p)::l))=2 from k),if_neg (show ¬headS ((a,p)::l)=[91]from h)];rfl
theorem af_nil:afterD x []=none:=by unfold afterD;rw[if_neg (show ¬headS []=[61]from by decide)]
theorem af_one(t:Tok):afterD x [t]=none:=by
 unfold afterD;split
 ·rw[show headS [t].tail=[]from rfl,valZ_nil]
 ·rfl
theorem af_two(e v:Tok):afterD x [e,v]=if e.1=[61]then initC (some x) (valZ v.1)else none:=by
 unfold afterD;rw[show headS [e,v]=e.1 from rfl,show headS [e,v].tail=v.1 from rfl];split
 ·cases valZ v.1 with
  |none=>rfl
  |some q=>rfl
 ·rfl
theorem af_more(e v f:Tok)(r:List Tok):afterD x (e::v::f::r)=none:=by
 unfold afterD;split
 ·split
  ·exact if_neg (by simp)
  ·rfl
 ·rfl
end
theorem initL'4(arch:Int)(a b c d:Tx):initL' arch [a,b,c,d]=none:=rfl
theorem initL'6(arch:Int)(a b c d e f:Tx)(r:List Tx):initL' arch (a::b::c::d::e::f::r)=none:=rfl
theorem initD_eq(arch:Int)(l:List Tok):initD arch l=initL' arch (txs l):=by
 rw[initD_af]
 match l with
 | []=>
   rfl
 | (a,p)::l=>
   by_cases k:kindT a=2
   ·have hn:=name_no2 k
    have h91:a≠[91]:=by rintro rfl;exact absurd k (by decide)
    have t1:thingP arch [a]=none:=by show(if nameB a=true then some (⟨-1,0,a,[],0⟩:Ini)else none)=none;rw[hn];rfl
    rw[tD_num k]
    match l with
    |[]=>rw[if_neg (show ¬headS []=[58]from by decide)];rfl
    | [b]=>
      rw[show headS [b].tail=[]from rfl,regOfA_nil];split
      ·rename_i h;split at h
       ·cases numR a<;>rfl
       ·rfl
      ·rename_i h;split at h
       ·revert h;cases numR a<;>(intro h;cases h)
       ·cases h
    | [b,c]=>
      show _=initL' arch [a,b.1,c.1];rw[initL3,t1,initC_no];simp only[ite_self];split
      ·rfl
      ·rename_i x r h
       split at h
       ·split at h
        ·split at h
         ·cases h;exact af_nil
         ·cases h
        ·cases h
       ·cases h
    | [b,c,d]=>
      show _=initL' arch [a,b.1,c.1,d.1];rw[initL'4];split
      ·rfl
      ·rename_i x r h
       split at h
       ·split at h
        ·split at h
         ·cases h;exact af_one d
         ·cases h
        ·cases h
       ·cases h
    | [b,c,e,v]=>
      show _=initL' arch [a,b.1,c.1,e.1,v.1];rw[initL5,thingP3,if_neg (show ¬(a=[91]/\c.1=[93]/\nameB b.1=true)from fun h=>h91 h.1)];rw[show headS [b,c,e,v]=b.1 from rfl,show headS [b,c,e,v].tail=c.1 from rfl]
      by_cases hb:b.1=[58]
      ·rw[if_pos hb,if_pos hb]
       cases numR a with
       |none=>simp only[initC_no,ite_self]
       | some n=>
         cases regOfA arch c.1 with
         |none=>simp only[initC_no,ite_self]
         | some r=>
           simp only
           by_cases hr:0<=n/\n<16
           ·rw[if_pos hr,if_pos hr];exact af_two e v
           ·rw[if_neg hr,if_neg hr];simp only[initC_no,ite_self]
      ·rw[if_neg hb,if_neg hb];simp only[initC_no,ite_self]
    | b::c::e::v::f::r=>
      show _=initL' arch (a::b.1::c.1::e.1::v.1::f.1::txs r);rw[initL'6];split
      ·rfl
      ·rename_i x r h
       split at h
       ·split at h
        ·split at h
         ·cases h;exact af_more e v f _
         ·cases h
        ·cases h
       ·cases h
   ·have hnr:=numR_no k
    by_cases h91:a=[91]
    ·subst h91
     have t1:thingP arch [[91]]=none:=by show(if nameB [91]=true then some (⟨-1,0,[91],[],0⟩:Ini)else none)=none;rw[name_91];rfl
     rw[tD_sq]
     match l with
     |[]=>rfl
     | [b]=>
       rw[if_neg (fun h=>absurd h.2 (show ¬headS [b].tail=[93]from by show ¬([]:Tx)=[93];decide))];rfl
     | [b,c]=>
       show _=initL' arch [[91],b.1,c.1];rw[initL3,t1,initC_no];simp only[ite_self];split
       ·rfl
       ·rename_i x r h
        split at h
        ·cases h;exact af_nil
        ·cases h
     | [b,c,d]=>
       show _=initL' arch [[91],b.1,c.1,d.1];rw[initL'4];split
       ·rfl
       ·rename_i x r h
        split at h
        ·cases h;exact af_one d
        ·cases h
     | [b,c,e,v]=>
       show _=initL' arch [[91],b.1,c.1,e.1,v.1];rw[initL5,thingP3,numR_91];rw[show headS [b,c,e,v]=b.1 from rfl,show headS [b,c,e,v].tail=c.1 from rfl]
       by_cases hb:nameB b.1=true/\c.1=[93]
       ·rw[if_pos hb,if_pos (show([91]:Tx)=[91]/\c.1=[93]/\nameB b.1=true from⟨rfl,hb.2,hb.1⟩)];exact af_two e v
       ·rw[if_neg hb,if_neg (show ¬(([91]:Tx)=[91]/\c.1=[93]/\nameB b.1=true)from fun h=>hb ⟨h.2.2,h.2.1⟩)];simp only[initC_no,ite_self]
     | b::c::e::v::f::r=>
       show _=initL' arch ([91]::b.1::c.1::e.1::v.1::f.1::txs r);rw[initL'6];split
       ·rfl
       ·rename_i x r h
        split at h
        ·cases h;exact af_more e v f _
        ·cases h
    ·rw[tD_name k h91]
     match l with
     | []=>
       split
       ·rfl
       ·rename_i x r h
        split at h
        ·cases h;exact af_nil
        ·cases h
     | [b]=>
       split
       ·rfl
       ·rename_i x r h
        split at h
        ·cases h;exact af_one b
        ·cases h
     | [b,c]=>
       show _=initL' arch [a,b.1,c.1];rw[initL3];show _=if b.1=[61]then initC (if nameB a=true then some ⟨-1,0,a,[],0⟩else none) (valZ c.1)else none
       by_cases hb:nameB a=true
       ·rw[if_pos hb,if_pos hb];exact af_two b c
       ·rw[if_neg hb,if_neg hb];simp only[initC_no,ite_self]
     | [b,c,d]=>
       show _=initL' arch [a,b.1,c.1,d.1];rw[initL'4];split
       ·rfl
       ·rename_i x r h
        split at h
        ·cases h;exact af_more b c d []
        ·cases h
     | [b,c,e,v]=>
       show _=initL' arch [a,b.1,c.1,e.1,v.1];rw[initL5,thingP3,if_neg (show ¬(a=[91]/\c.1=[93]/\nameB b.1=true)from fun h=>h91 h.1),hnr];simp only[ite_self,initC_no];split
       ·rfl
       ·rename_i x r h
        split at h
        ·cases h;exact af_more b c e [v]
        ·cases h
     | b::c::e::v::f::r=>
       show _=initL' arch (a::b.1::c.1::e.1::v.1::f.1::txs r);rw[initL'6];split
       ·rfl
       ·rename_i x r h
        split at h
        ·cases h;exact af_more b c e _
        ·cases h
end Go.Proofs.YtkbbgjloifmmbaaGreatDoor
namespace Go.Proofs.YtkbbgjloifmmbaaGreatDoor
open Go.RowKit Go.Sort
theorem r09Given(s:Tx)(hl:s.length<=9223372036854775807)(w:World)(g:Gl w):Calls Tryz.prog 188 #[.string (tx s)] w (RetNum (givenX s) w):=by
 obtain⟨n,hn⟩: ∃n,(tx s).size=n:=⟨_,rfl⟩;have HN:=hid (show n=s.length by rw[<-hn,tx_size]);have hnb:n<=9223372036854775807:=by rw[HN.out];exact hl
 by_cases h2:n<2
 ·have HR:=hid (show givenX s=none by
   unfold givenX;split
   ·have e:s.drop 1=[]:=List.drop_eq_nil_of_le (by have:=HN.out;omega)
    rw[e];exact numR_long (.inl rfl)
   ·rfl)
  have z0:decide ((n:Int)<2)=true:=by simp;omega
  clear g hl;go_enter Tryz.func188,Tryz.ntmps188;go_wp2_with fail
  go_ret2
  exact⟨0,false,rfl,HR.out,(by repeat(first|with_reducible assumption|with_reducible exact Below.refl _ _|with_reducible refine Below.setCell ?_ (Nat.le_refl _) _|with_reducible refine Below.setCell ?_ (by simp) _|with_reducible refine Below.alloc ?_ (Nat.le_refl _) _|with_reducible refine Below.alloc ?_ (by simp) _|with_reducible refine Below.alloc ?_ (by simp<;>omega) _|with_reducible refine Below.drew ?_))⟩
 have z0:decide ((n:Int)<2)=false:=by simp;omega
 obtain⟨c,hc⟩: ∃c,s[0]? =some c:=⟨_,List.getElem?_eq_getElem (by have:=HN.out;omega)⟩;have hh:s.head?=some c:=by rw[<-hc];cases s<;>rfl
 have i0:=run_ixz s c hc;have e36:((c.toNat:Int)==36)=(c==36):=byte_eq (x:=c) 36 (by decide)
 by_cases h36:c=36
 ·have z1:((c.toNat:Int)==36)=true:=by rw[e36];simpa using h36
  have HR:=hid (show givenX s=numR (s.drop 1) by unfold givenX;rw[if_pos (by rw[hh,h36])]);have NI:=hid (r09Int (s.drop 1) (by simp;omega) w g);have sf:=run_strfrom s 1 (by have:=HN.out;omega);rw[show((1:Nat):Int)=1 from rfl]at sf;generalize hu:s.drop 1=u at*;clear g hl hc hh e36 h36 hu;go_enter Tryz.func188,Tryz.ntmps188;go_wp2_with fail;refine NI.out.mono ?_;rintro e w1 ⟨v,ok,rfl,HO,E⟩;have HO:=hid HO;go_wp2_with fail
  go_ret2
  exact⟨v,ok,rfl,by rw[HR.out];exact HO.out,E⟩
 ·have z1:((c.toNat:Int)==36)=false:=by rw[e36];simpa using h36
  have HR:=hid (show givenX s=none by unfold givenX;rw[if_neg (by rw[hh];intro e;exact h36 (Option.some.inj e))]);clear g hl hc hh e36 h36;go_enter Tryz.func188,Tryz.ntmps188;go_wp2_with fail
  go_ret2
  exact⟨0,false,rfl,HR.out,(by repeat(first|with_reducible assumption|with_reducible exact Below.refl _ _|with_reducible refine Below.setCell ?_ (Nat.le_refl _) _|with_reducible refine Below.setCell ?_ (by simp) _|with_reducible refine Below.alloc ?_ (Nat.le_refl _) _|with_reducible refine Below.alloc ?_ (by simp) _|with_reducible refine Below.alloc ?_ (by simp<;>omega) _|with_reducible refine Below.drew ?_))⟩
theorem r09RegOf(s:Tx)(w:World):Calls Tryz.prog 189 #[.string (tx s)] w (Ret w (.tuple #[.int .i64 (optX (regOfX s)).1,.int .i64 (optX (regOfX s)).2])):=by
 have NM:=hid (fun w=>r9Names w);go_enter Tryz.func189,Tryz.ntmps189;go_wp2_with fail
 go_loopw [4] (fun i wr=> ∃k:Nat,k<=15/\i= .int .i64 k/\Below w.heap.size w wr/\Hid (∀m,m<k->regX m≠s)) (fun i _=>15-(intOf i).toNat)
 case atStart=>exact⟨0,by omega,rfl,(by repeat(first|with_reducible assumption|with_reducible exact Below.refl _ _|with_reducible refine Below.setCell ?_ (Nat.le_refl _) _|with_reducible refine Below.setCell ?_ (by simp) _|with_reducible refine Below.alloc ?_ (Nat.le_refl _) _|with_reducible refine Below.alloc ?_ (by simp) _|with_reducible refine Below.alloc ?_ (by simp<;>omega) _|with_reducible refine Below.drew ?_)),fun m hm=>absurd hm (Nat.not_lt_zero m)⟩
 case round=>
  obtain⟨k,hk,rfl,E,HM⟩:=hrel
  by_cases hlt:k<15
  ·by_cases he:regX k=s
   ·have hz:((tx (regX k)).toList==(tx s).toList)=true:=by rw[tx_beq];simpa using he
    have HR:=hid (regX_hit hlt he);clear he;go_wp2_with fail;refine(NM.out _).mono ?_;rintro e w1 ⟨a,rfl,T,B⟩;have ix:=T.idx hlt;have cx:=T.cell hlt;have E:=E.trans (B.mono E.size);clear T B;go_wp2_with fail
    go_ret2
    exact⟨ret_ii (by rw[HR.out]) (by rw[HR.out]),E⟩
   ·have hz:((tx (regX k)).toList==(tx s).toList)=false:=tx_eq_false he
    have HM2:=hid (show ∀m,m<k+1->regX m≠s from fun m hm=>by
     rcases Nat.lt_succ_iff_lt_or_eq.1 hm with h|h
     ·exact HM.out m h
     ·subst h;exact he)
    clear he;go_wp2_with fail;refine(NM.out _).mono ?_;rintro e w1 ⟨a,rfl,T,B⟩;have ix:=T.idx hlt;have cx:=T.cell hlt;have E:=E.trans (B.mono E.size);clear T B;go_wp2_with fail
    go_roundw
    case rel=>exact⟨k+1,by omega,by go_num,E,HM2⟩
    case measure=>simp[intOf];omega
  ·obtain rfl:k=15:=by omega
   have HR:=hid (regX_miss HM.out);go_wp2_with fail
   go_ret2
   exact⟨ret_ii (by rw[HR.out]) (by rw[HR.out]),E⟩
theorem r09Place(x y z:Tx)(hl:y.length<=9223372036854775807)(a:Option Addr)(c:Nat)(w:World)(T:Txs w a [x,y,z]):
 Calls Tryz.prog 187 #[.slice a 3 c] w fun e w'=>e= .returned (.tuple #[.string (tx y),.bool (place3 x y z).isSome])/\QW w w':=by
 have i0: ∀c w',(Instr.indexAt 42 (.slice a 3 c) (.int .i64 0)).run Tryz.prog w'=_:=T.idx 0 (by simp);have i1: ∀c w',(Instr.indexAt 42 (.slice a 3 c) (.int .i64 1)).run Tryz.prog w'=_:=T.idx 1 (by simp);have i2: ∀c w',(Instr.indexAt 42 (.slice a 3 c) (.int .i64 2)).run Tryz.prog w'=_:=T.idx 2 (by simp);have c0:w.cell? ⟨bk a,fo a+0,none⟩=some (.string (tx x)):=T.cell 0 (by simp);have c1:w.cell? ⟨bk a,fo a+1,none⟩=some (.string (tx y)):=T.cell 1 (by simp);have c2:w.cell? ⟨bk a,fo a+2,none⟩=some (.string (tx z)):=T.cell 2 (by simp);have i0:=i0 c;have i1:=i1 c;have i2:=i2 c;simp only[Nat.add_zero]at i0 c0;have NA:=hid (fun w=>r09Named y hl w)
 have HP:=hid (show ∀b1 b2 b3,decide (x=[91])=b1->decide (z=[93])=b2->nameB y=b3->(place3 x y z).isSome=(b1&&b2&&b3)from fun b1 b2 b3 h1 h2 h3=>by
  subst h1 h2 h3;unfold place3
  by_cases h1:x=[91]<;>by_cases h2:z=[93]<;>cases nameB y<;>simp[h1,h2])
 clear T
 by_cases h1:x=[91]
 ·have z1:((tx x).toList==[91])=true:=by rw[tx_toList,h1];decide
  by_cases h2:z=[93]
  ·have z2:((tx z).toList==[93])=true:=by rw[tx_toList,h2];decide
   have HQ:=hid (HP.out true true (nameB y) (by simpa using h1) (by simpa using h2) rfl);generalize (place3 x y z).isSome=pb at*;clear h1 h2 HP;cases hb:nameB y with
   | true=>
     have HB:=hid hb;rw[hb]at HQ NA;clear hb;go_enter Tryz.func187,Tryz.ntmps187;go_wp2_with fail
     go_region_with (go_at_call 252;refine(NA.out _).mono ?_;rintro e w' ⟨rfl,rfl⟩)
     all_goals go_wp2_with fail
     all_goals go_ret2
     all_goals exact⟨by rw[HQ.out];rfl,(by repeat(first|exact QW.refl _|refine QW.d ?_ _))⟩
   | false=>
     have HB:=hid hb;rw[hb]at HQ NA;clear hb;go_enter Tryz.func187,Tryz.ntmps187;go_wp2_with fail
     go_region_with (go_at_call 252;refine(NA.out _).mono ?_;rintro e w' ⟨rfl,rfl⟩)
     all_goals go_wp2_with fail
     all_goals go_ret2
     all_goals exact⟨by rw[HQ.out];rfl,(by repeat(first|exact QW.refl _|refine QW.d ?_ _))⟩
  ·have z2:((tx z).toList==[93])=false:=tx_ne _ _ h2
   have HQ:=hid (HP.out true false (nameB y) (by simpa using h1) (by simpa using h2) rfl);generalize (place3 x y z).isSome=pb at*;clear h1 h2 HP;go_enter Tryz.func187,Tryz.ntmps187;go_wp2_with fail
   go_quiet ((go_at_call 252;exact Calls.quiet_of_same (NA.out _)))
   all_goals go_wp2_with fail
   all_goals go_ret2
   all_goals exact⟨by rw[HQ.out];rfl,(by repeat(first|exact QW.refl _|refine QW.d ?_ _))⟩
 ·have z1:((tx x).toList==[91])=false:=tx_ne _ _ h1
  have HQ:=hid (HP.out false (decide (z=[93])) (nameB y) (by simpa using h1) rfl rfl);generalize (place3 x y z).isSome=pb at*;clear h1 HP;go_enter Tryz.func187,Tryz.ntmps187;go_wp2_with fail
  go_quiet ((go_at_call 252;exact Calls.quiet_of_same (NA.out _)))
  all_goals go_wp2_with fail
  all_goals go_ret2
  all_goals exact⟨by rw[HQ.out];rfl,(by repeat(first|exact QW.refl _|refine QW.d ?_ _))⟩
end Go.Proofs.YtkbbgjloifmmbaaGreatDoor
