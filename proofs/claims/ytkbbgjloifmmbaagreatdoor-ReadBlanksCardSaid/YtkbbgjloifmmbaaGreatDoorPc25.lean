/- What ReadBlanksP leans on, part 25. -/
import Derived.Test.YtkbbgjloifmmbaaGreatDoorPc20
import Derived.Defers
import Derived.Recover
set_option linter.unusedVariables false
set_option maxRecDepth 100000
set_option maxHeartbeats 1600000
open _root_.Go.Proofs.Tryz
open _root_.Go.Exit renaming thenS->ap4
open _root_.Go.RowKit.Below renaming setCell->anc
open _root_.Array renaming replicate->ap5
namespace Go.Proofs.YtkbbgjloifmmbaaGreatDoor
open Go.RowKit Go.Sort
theorem akk(v:Value)(w:World):(Instr.typeAssert (.iface 65 v) 20 65 false).run prog w= .ok v w:=by kernel_rfl
theorem aki(n k:Int)(w:World):(Instr.field 65 (.agg #[.int .i64 n,.int .i64 k]) 0).run prog w= .ok (.int .i64 n) w:=by kernel_rfl
theorem akj(n k:Int)(w:World):(Instr.field 65 (.agg #[.int .i64 n,.int .i64 k]) 1).run prog w= .ok (.int .i64 k) w:=by kernel_rfl
theorem Yp(p q r:Addr)(w:World):
 CallsD prog 26 #[.pointer (some p),.pointer (some q),.pointer (some r)] .returning w fun e u' w'=>e= .returned (.tuple #[])/\u'= .returning/\w'=w:=by
 refine callsD_of_wpS func26 rfl fun c₀ cs hu=>?_
 apply wpS_seq;apply wpS_region;simp[wpOpsS,go_sem,recoverD,hu,ntmps26,ap4];apply wpS_seq;apply wpS_region;simp[wpOpsS,go_sem,ap4];refine wpS_cond (t:=false) (by simp[Act.eval,ap5]) ?_;simp only[Bool.false_eq_true,if_false];refine wpS_of_wp (wp_skip ?_);cases c₀
 simp_all [bodyPostS,results,results26]
theorem ajs(bp bq br:Nat)(n k:Int)(w:World)(older:List PanicEntry)(us:List Value)(x y:Value)(hl:us.length=12)
 (h1:aA w bp us) (h2:w.cell? ⟨bq,0,none⟩=some x) (h3:w.cell? ⟨br,0,none⟩=some y) (f1: ∀j,w.frozen? ⟨bp,j,none⟩=false) (f2:w.frozen? ⟨bq,0,none⟩=false) (f3:w.frozen? ⟨br,0,none⟩=false)
 (n1:bp≠bq) (n2:bp≠br) (n3:bq≠br):
 CallsD prog 26 #[.pointer (some ⟨bp,0,none⟩),.pointer (some ⟨bq,0,none⟩),.pointer (some ⟨br,0,none⟩)] (.panicking ({ v:=.iface 65 (.agg #[.int .i64 n,.int .i64 k]),recovered:=false }::older)) w fun e u' w'=>e= .returned (.tuple #[])/\u'= .panicking ({ v:=.iface 65 (.agg #[.int .i64 n,.int .i64 k]),recovered:=true }::older)/\
  (∀B,B<=bp->B<=bq->B<=br->Below B w w')/\aA w' bp [.int .i64 0,.string ⟨#[]⟩,.string ⟨#[]⟩,.slice none 0 0,.slice none 0 0,.int .i64 0,.int .i64 0,.int .i64 0,.int .i64 0,.string ⟨#[]⟩,.int .i64 0,.slice none 0 0]/\w'.cell? ⟨bq,0,none⟩=some (.int .i64 n)/\w'.cell? ⟨br,0,none⟩=some (.int .i64 k):=by
 match us,hl with
 |[u0,u1,u2,u3,u4,u5,u6,u7,u8,u9,u10,u11],_=>
 obtain⟨p0,p1,p2,p3,p4,p5,p6,p7,p8,p9,gZ,ig⟩:=h1.uj;refine callsD_of_wpS func26 rfl fun c₀ cs hu=>?_
 apply wpS_seq;apply wpS_region;simp[wpOpsS,go_sem,recoverD,hu,ntmps26,ap4];apply wpS_seq;apply wpS_region;simp[wpOpsS,go_sem,ap4];refine wpS_cond (t:=true) (by simp[Act.eval,ap5]) ?_;simp only[if_true];refine wpS_of_wp ?_;have hx:=h1.1;have ta:=akk;have tb:=aki n k;have tc:=akj n k;clear hl h1;have f1a:=f1 0;have f1b:=f1 1;have f1c:=f1 2;have f1d:=f1 3;have f1e:=f1 4;have f1f:=f1 5;have f1g:=f1 6;have f1h:=f1 7;have f1i:=f1 8;have f1j:=f1 9;have f1k:=f1 10;have f1l:=f1 11;refine(?_:Code.wp prog _ _ ⟨#[.pointer (some ⟨bp,0,none⟩),.pointer (some ⟨bq,0,none⟩),.pointer (some ⟨br,0,none⟩),.iface 65 (.agg #[.int .i64 n,.int .i64 k]),.iface 65 (.agg #[.int .i64 n,.int .i64 k]),.iface 65 (.agg #[.int .i64 n,.int .i64 k]),.bool true,undef,undef,undef,undef,undef,undef,undef],[]⟩ w)
 go_big_region
 all_goals(try go_wp2_with fail)
 refine⟨rfl,_,rfl,.tuple #[],by simp[results,results26],rfl,rfl,fun B b1 b2 b3=>?_,⟨by simpa using hx,fun j hj=>?_⟩,by simp[go_sem,h2],by simp[go_sem,h3]⟩
 ·(repeat first|with_reducible refine anc ?_ b1 _|with_reducible refine anc ?_ b2 _|with_reducible refine anc ?_ b3 _|with_reducible refine Below.drew ?_)
  exact Below.refl _ _
 have:j=0\/j=1\/j=2\/j=3\/j=4\/j=5\/j=6\/j=7\/j=8\/j=9\/j=10\/j=11:=by simp at hj;omega
 rcases this with rfl|rfl|rfl|rfl|rfl|rfl|rfl|rfl|rfl|rfl|rfl|rfl<;>simp[go_sem,p0,p1,p2,p3,p4,p5,p6,p7,p8,p9,gZ,ig]
end Go.Proofs.YtkbbgjloifmmbaaGreatDoor
