/- The law ProtoElse: what the code asks, and what it comes to. -/
import Derived.Test.YtblbaohcelldpaaGreatDoorQN
import Derived.Test.YtblbaohcelldpaaGreatDoorQC
import Derived.Test.YtblbaohcelldpaaGreatDoorN1
import Derived.Test.YtblbaohcelldpaaGreatDoorWE
set_option linter.all false
namespace Go.Proofs.YtblbaohcelldpaaGreatDoor.Ob
open Go Go.Abs Go.Tlv
set_option maxRecDepth 100000
noncomputable section
theorem putF_a0(x y:OMsg)(t:Nat):(putF x y t).a0=x.a0:=by unfold putF;split<;>rfl
theorem putF_a1(x y:OMsg)(t:Nat):(putF x y t).a1=x.a1:=by unfold putF;split<;>rfl
theorem putF_ne1(x y:OMsg):∀k,k≠1->putM (putF x y 1) k=putM x k
 | 0,_=>rfl
 | 1,h=>absurd rfl h
 | 2,_=>rfl
 | 3,_=>rfl
 | 4,_=>rfl
 | 5,_=>rfl
 | 6,_=>rfl
 | 7,_=>rfl
 | 8,_=>rfl
 | 9,_=>rfl
 | 10,_=>rfl
 | 11,_=>rfl
 | 12,_=>rfl
 | 13,_=>rfl
 | 14,_=>rfl
 | 15,_=>rfl
 | 16,_=>rfl
 | 17,_=>rfl
 |k+18,_=>(putM_out (.inr (by omega))).trans (putM_out (.inr (by omega))).symm
theorem putF_ne2(x y:OMsg):∀k,k≠2->putM (putF x y 2) k=putM x k
 | 0,_=>rfl
 | 1,_=>rfl
 | 2,h=>absurd rfl h
 | 3,_=>rfl
 | 4,_=>rfl
 | 5,_=>rfl
 | 6,_=>rfl
 | 7,_=>rfl
 | 8,_=>rfl
 | 9,_=>rfl
 | 10,_=>rfl
 | 11,_=>rfl
 | 12,_=>rfl
 | 13,_=>rfl
 | 14,_=>rfl
 | 15,_=>rfl
 | 16,_=>rfl
 | 17,_=>rfl
 |k+18,_=>(putM_out (.inr (by omega))).trans (putM_out (.inr (by omega))).symm
theorem putF_ne3(x y:OMsg):∀k,k≠3->putM (putF x y 3) k=putM x k
 | 0,_=>rfl
 | 1,_=>rfl
 | 2,_=>rfl
 | 3,h=>absurd rfl h
 | 4,_=>rfl
 | 5,_=>rfl
 | 6,_=>rfl
 | 7,_=>rfl
 | 8,_=>rfl
 | 9,_=>rfl
 | 10,_=>rfl
 | 11,_=>rfl
 | 12,_=>rfl
 | 13,_=>rfl
 | 14,_=>rfl
 | 15,_=>rfl
 | 16,_=>rfl
 | 17,_=>rfl
 |k+18,_=>(putM_out (.inr (by omega))).trans (putM_out (.inr (by omega))).symm
theorem putF_ne4(x y:OMsg):∀k,k≠4->putM (putF x y 4) k=putM x k
 | 0,_=>rfl
 | 1,_=>rfl
 | 2,_=>rfl
 | 3,_=>rfl
 | 4,h=>absurd rfl h
 | 5,_=>rfl
 | 6,_=>rfl
 | 7,_=>rfl
 | 8,_=>rfl
 | 9,_=>rfl
 | 10,_=>rfl
 | 11,_=>rfl
 | 12,_=>rfl
 | 13,_=>rfl
 | 14,_=>rfl
 | 15,_=>rfl
 | 16,_=>rfl
 | 17,_=>rfl
 |k+18,_=>(putM_out (.inr (by omega))).trans (putM_out (.inr (by omega))).symm
theorem putF_ne5(x y:OMsg):∀k,k≠5->putM (putF x y 5) k=putM x k
 | 0,_=>rfl
 | 1,_=>rfl
 | 2,_=>rfl
 | 3,_=>rfl
 | 4,_=>rfl
 | 5,h=>absurd rfl h
 | 6,_=>rfl
 | 7,_=>rfl
 | 8,_=>rfl
 | 9,_=>rfl
 | 10,_=>rfl
 | 11,_=>rfl
 | 12,_=>rfl
 | 13,_=>rfl
 | 14,_=>rfl
 | 15,_=>rfl
 | 16,_=>rfl
 | 17,_=>rfl
 |k+18,_=>(putM_out (.inr (by omega))).trans (putM_out (.inr (by omega))).symm
theorem putF_ne6(x y:OMsg):∀k,k≠6->putM (putF x y 6) k=putM x k
 | 0,_=>rfl
 | 1,_=>rfl
 | 2,_=>rfl
 | 3,_=>rfl
 | 4,_=>rfl
 | 5,_=>rfl
 | 6,h=>absurd rfl h
 | 7,_=>rfl
 | 8,_=>rfl
 | 9,_=>rfl
 | 10,_=>rfl
 | 11,_=>rfl
 | 12,_=>rfl
 | 13,_=>rfl
 | 14,_=>rfl
 | 15,_=>rfl
 | 16,_=>rfl
 | 17,_=>rfl
 |k+18,_=>(putM_out (.inr (by omega))).trans (putM_out (.inr (by omega))).symm
theorem putF_ne7(x y:OMsg):∀k,k≠7->putM (putF x y 7) k=putM x k
 | 0,_=>rfl
 | 1,_=>rfl
 | 2,_=>rfl
 | 3,_=>rfl
 | 4,_=>rfl
 | 5,_=>rfl
 | 6,_=>rfl
 | 7,h=>absurd rfl h
 | 8,_=>rfl
 | 9,_=>rfl
 | 10,_=>rfl
 | 11,_=>rfl
 | 12,_=>rfl
 | 13,_=>rfl
 | 14,_=>rfl
 | 15,_=>rfl
 | 16,_=>rfl
 | 17,_=>rfl
 |k+18,_=>(putM_out (.inr (by omega))).trans (putM_out (.inr (by omega))).symm
theorem putF_ne8(x y:OMsg):∀k,k≠8->putM (putF x y 8) k=putM x k
 | 0,_=>rfl
 | 1,_=>rfl
 | 2,_=>rfl
 | 3,_=>rfl
 | 4,_=>rfl
 | 5,_=>rfl
 | 6,_=>rfl
 | 7,_=>rfl
 | 8,h=>absurd rfl h
 | 9,_=>rfl
 | 10,_=>rfl
 | 11,_=>rfl
 | 12,_=>rfl
 | 13,_=>rfl
 | 14,_=>rfl
 | 15,_=>rfl
 | 16,_=>rfl
 | 17,_=>rfl
 |k+18,_=>(putM_out (.inr (by omega))).trans (putM_out (.inr (by omega))).symm
theorem putF_ne9(x y:OMsg):∀k,k≠9->putM (putF x y 9) k=putM x k
 | 0,_=>rfl
 | 1,_=>rfl
 | 2,_=>rfl
 | 3,_=>rfl
 | 4,_=>rfl
 | 5,_=>rfl
 | 6,_=>rfl
 | 7,_=>rfl
 | 8,_=>rfl
 | 9,h=>absurd rfl h
 | 10,_=>rfl
 | 11,_=>rfl
 | 12,_=>rfl
 | 13,_=>rfl
 | 14,_=>rfl
 | 15,_=>rfl
 | 16,_=>rfl
 | 17,_=>rfl
 |k+18,_=>(putM_out (.inr (by omega))).trans (putM_out (.inr (by omega))).symm
theorem putF_ne10(x y:OMsg):∀k,k≠10->putM (putF x y 10) k=putM x k
 | 0,_=>rfl
 | 1,_=>rfl
 | 2,_=>rfl
 | 3,_=>rfl
 | 4,_=>rfl
 | 5,_=>rfl
 | 6,_=>rfl
 | 7,_=>rfl
 | 8,_=>rfl
 | 9,_=>rfl
 | 10,h=>absurd rfl h
 | 11,_=>rfl
 | 12,_=>rfl
 | 13,_=>rfl
 | 14,_=>rfl
 | 15,_=>rfl
 | 16,_=>rfl
 | 17,_=>rfl
 |k+18,_=>(putM_out (.inr (by omega))).trans (putM_out (.inr (by omega))).symm
theorem putF_ne11(x y:OMsg):∀k,k≠11->putM (putF x y 11) k=putM x k
 | 0,_=>rfl
 | 1,_=>rfl
 | 2,_=>rfl
 | 3,_=>rfl
 | 4,_=>rfl
 | 5,_=>rfl
 | 6,_=>rfl
 | 7,_=>rfl
 | 8,_=>rfl
 | 9,_=>rfl
 | 10,_=>rfl
 | 11,h=>absurd rfl h
 | 12,_=>rfl
 | 13,_=>rfl
 | 14,_=>rfl
 | 15,_=>rfl
 | 16,_=>rfl
 | 17,_=>rfl
 |k+18,_=>(putM_out (.inr (by omega))).trans (putM_out (.inr (by omega))).symm
theorem putF_ne12(x y:OMsg):∀k,k≠12->putM (putF x y 12) k=putM x k
 | 0,_=>rfl
 | 1,_=>rfl
 | 2,_=>rfl
 | 3,_=>rfl
 | 4,_=>rfl
 | 5,_=>rfl
 | 6,_=>rfl
 | 7,_=>rfl
 | 8,_=>rfl
 | 9,_=>rfl
 | 10,_=>rfl
 | 11,_=>rfl
 | 12,h=>absurd rfl h
 | 13,_=>rfl
 | 14,_=>rfl
 | 15,_=>rfl
 | 16,_=>rfl
 | 17,_=>rfl
 |k+18,_=>(putM_out (.inr (by omega))).trans (putM_out (.inr (by omega))).symm
theorem putF_ne13(x y:OMsg):∀k,k≠13->putM (putF x y 13) k=putM x k
 | 0,_=>rfl
 | 1,_=>rfl
 | 2,_=>rfl
 | 3,_=>rfl
 | 4,_=>rfl
 | 5,_=>rfl
 | 6,_=>rfl
 | 7,_=>rfl
 | 8,_=>rfl
 | 9,_=>rfl
 | 10,_=>rfl
 | 11,_=>rfl
 | 12,_=>rfl
 | 13,h=>absurd rfl h
 | 14,_=>rfl
 | 15,_=>rfl
 | 16,_=>rfl
 | 17,_=>rfl
 |k+18,_=>(putM_out (.inr (by omega))).trans (putM_out (.inr (by omega))).symm
theorem putF_ne14(x y:OMsg):∀k,k≠14->putM (putF x y 14) k=putM x k
 | 0,_=>rfl
 | 1,_=>rfl
 | 2,_=>rfl
 | 3,_=>rfl
 | 4,_=>rfl
 | 5,_=>rfl
 | 6,_=>rfl
 | 7,_=>rfl
 | 8,_=>rfl
 | 9,_=>rfl
 | 10,_=>rfl
 | 11,_=>rfl
 | 12,_=>rfl
 | 13,_=>rfl
 | 14,h=>absurd rfl h
 | 15,_=>rfl
 | 16,_=>rfl
 | 17,_=>rfl
 |k+18,_=>(putM_out (.inr (by omega))).trans (putM_out (.inr (by omega))).symm
theorem putF_ne15(x y:OMsg):∀k,k≠15->putM (putF x y 15) k=putM x k
 | 0,_=>rfl
 | 1,_=>rfl
 | 2,_=>rfl
 | 3,_=>rfl
 | 4,_=>rfl
 | 5,_=>rfl
 | 6,_=>rfl
 | 7,_=>rfl
 | 8,_=>rfl
 | 9,_=>rfl
 | 10,_=>rfl
 | 11,_=>rfl
 | 12,_=>rfl
 | 13,_=>rfl
 | 14,_=>rfl
 | 15,h=>absurd rfl h
 | 16,_=>rfl
 | 17,_=>rfl
 |k+18,_=>(putM_out (.inr (by omega))).trans (putM_out (.inr (by omega))).symm
theorem putF_ne16(x y:OMsg):∀k,k≠16->putM (putF x y 16) k=putM x k
 | 0,_=>rfl
 | 1,_=>rfl
 | 2,_=>rfl
 | 3,_=>rfl
 | 4,_=>rfl
 | 5,_=>rfl
 | 6,_=>rfl
 | 7,_=>rfl
 | 8,_=>rfl
 | 9,_=>rfl
 | 10,_=>rfl
 | 11,_=>rfl
 | 12,_=>rfl
 | 13,_=>rfl
 | 14,_=>rfl
 | 15,_=>rfl
 | 16,h=>absurd rfl h
 | 17,_=>rfl
 |k+18,_=>(putM_out (.inr (by omega))).trans (putM_out (.inr (by omega))).symm
theorem putF_ne17(x y:OMsg):∀k,k≠17->putM (putF x y 17) k=putM x k
 | 0,_=>rfl
 | 1,_=>rfl
 | 2,_=>rfl
 | 3,_=>rfl
 | 4,_=>rfl
 | 5,_=>rfl
 | 6,_=>rfl
 | 7,_=>rfl
 | 8,_=>rfl
 | 9,_=>rfl
 | 10,_=>rfl
 | 11,_=>rfl
 | 12,_=>rfl
 | 13,_=>rfl
 | 14,_=>rfl
 | 15,_=>rfl
 | 16,_=>rfl
 | 17,h=>absurd rfl h
 |k+18,_=>(putM_out (.inr (by omega))).trans (putM_out (.inr (by omega))).symm
theorem putF_ne(x y:OMsg):∀(t:Nat),1<=t->t<=17->∀k,k≠t->putM (putF x y t) k=putM x k
 | 0,h1,_=>absurd h1 (by decide)
 | 1,_,_=>putF_ne1 x y
 | 2,_,_=>putF_ne2 x y
 | 3,_,_=>putF_ne3 x y
 | 4,_,_=>putF_ne4 x y
 | 5,_,_=>putF_ne5 x y
 | 6,_,_=>putF_ne6 x y
 | 7,_,_=>putF_ne7 x y
 | 8,_,_=>putF_ne8 x y
 | 9,_,_=>putF_ne9 x y
 | 10,_,_=>putF_ne10 x y
 | 11,_,_=>putF_ne11 x y
 | 12,_,_=>putF_ne12 x y
 | 13,_,_=>putF_ne13 x y
 | 14,_,_=>putF_ne14 x y
 | 15,_,_=>putF_ne15 x y
 | 16,_,_=>putF_ne16 x y
 | 17,_,_=>putF_ne17 x y
 |t+18,_,h2=>absurd h2 (by omega)
theorem okP_putF{x y:OMsg}(hx:okP x)(hy:okP y):∀(t:Nat),1<=t->t<=17->okP (putF x y t)
 | 0,h1,_=>absurd h1 (by decide)
 | 1,_,_=>⟨hx.a0,hx.a1,hx.a7,hx.a8,hx.w,hx.wn,hx.n,hx.f,hx.t,hx.e,hx.b,hx.g,hx.m,hx.r⟩
 | 2,_,_=>⟨hx.a0,hx.a1,hx.a7,hx.a8,hx.w,hx.wn,hx.n,hx.f,hx.t,hx.e,hx.b,hx.g,hx.m,hx.r⟩
 | 3,_,_=>⟨hx.a0,hx.a1,hx.a7,hx.a8,hx.w,hx.wn,hx.n,hx.f,hx.t,hx.e,hx.b,hx.g,hx.m,hx.r⟩
 | 4,_,_=>⟨hx.a0,hx.a1,hx.a7,hx.a8,hx.w,hx.wn,hx.n,hx.f,hx.t,hx.e,hx.b,hx.g,hx.m,hx.r⟩
 | 5,_,_=>⟨hx.a0,hx.a1,hx.a7,hx.a8,hx.w,hx.wn,hx.n,hx.f,hx.t,hx.e,hx.b,hx.g,hx.m,hx.r⟩
 | 6,_,_=>⟨hx.a0,hx.a1,hy.a7,hx.a8,hx.w,hx.wn,hx.n,hx.f,hx.t,hx.e,hx.b,hx.g,hx.m,hx.r⟩
 | 7,_,_=>⟨hx.a0,hx.a1,hx.a7,hy.a8,hx.w,hx.wn,hx.n,hx.f,hx.t,hx.e,hx.b,hx.g,hx.m,hx.r⟩
 | 8,_,_=>⟨hx.a0,hx.a1,hx.a7,hx.a8,hx.w,hx.wn,hx.n,hx.f,hx.t,hx.e,hx.b,hx.g,hx.m,hx.r⟩
 | 9,_,_=>⟨hx.a0,hx.a1,hx.a7,hx.a8,hy.w,hy.wn,hx.n,hx.f,hx.t,hx.e,hx.b,hx.g,hx.m,hx.r⟩
 | 10,_,_=>⟨hx.a0,hx.a1,hx.a7,hx.a8,hx.w,hx.wn,hy.n,hx.f,hx.t,hx.e,hx.b,hx.g,hx.m,hx.r⟩
 | 11,_,_=>⟨hx.a0,hx.a1,hx.a7,hx.a8,hx.w,hx.wn,hx.n,hy.f,hx.t,hx.e,hx.b,hx.g,hx.m,hx.r⟩
 | 12,_,_=>⟨hx.a0,hx.a1,hx.a7,hx.a8,hx.w,hx.wn,hx.n,hx.f,hy.t,hx.e,hx.b,hx.g,hx.m,hx.r⟩
 | 13,_,_=>⟨hx.a0,hx.a1,hx.a7,hx.a8,hx.w,hx.wn,hx.n,hx.f,hx.t,hy.e,hx.b,hx.g,hx.m,hx.r⟩
 | 14,_,_=>⟨hx.a0,hx.a1,hx.a7,hx.a8,hx.w,hx.wn,hx.n,hx.f,hx.t,hx.e,hy.b,hx.g,hx.m,hx.r⟩
 | 15,_,_=>⟨hx.a0,hx.a1,hx.a7,hx.a8,hx.w,hx.wn,hx.n,hx.f,hx.t,hx.e,hx.b,hy.g,hx.m,hx.r⟩
 | 16,_,_=>⟨hx.a0,hx.a1,hx.a7,hx.a8,hx.w,hx.wn,hx.n,hx.f,hx.t,hx.e,hx.b,hx.g,hy.m,hx.r⟩
 | 17,_,_=>⟨hx.a0,hx.a1,hx.a7,hx.a8,hx.w,hx.wn,hx.n,hx.f,hx.t,hx.e,hx.b,hx.g,hx.m,hy.r⟩
 |t+18,_,h2=>absurd h2 (by omega)
theorem rgP_putF{x y:OMsg}(hx:rgP x)(hy:rgP y):∀(t:Nat),1<=t->t<=17->rgP (putF x y t)
 | 0,h1,_=>absurd h1 (by decide)
 | 1,_,_=>⟨hx.a0,hx.a1,hx.a7,hx.a8,hy.i2,hx.i3,hx.i4,hx.i5,hx.i6,hx.w,⟨hx.m.1,hx.m.2.1,hx.m.2.2.1,hx.m.2.2.2.1,hx.m.2.2.2.2.1,hx.m.2.2.2.2.2.1,hx.m.2.2.2.2.2.2.1,hx.m.2.2.2.2.2.2.2⟩⟩
 | 2,_,_=>⟨hx.a0,hx.a1,hx.a7,hx.a8,hx.i2,hy.i3,hx.i4,hx.i5,hx.i6,hx.w,⟨hx.m.1,hx.m.2.1,hx.m.2.2.1,hx.m.2.2.2.1,hx.m.2.2.2.2.1,hx.m.2.2.2.2.2.1,hx.m.2.2.2.2.2.2.1,hx.m.2.2.2.2.2.2.2⟩⟩
 | 3,_,_=>⟨hx.a0,hx.a1,hx.a7,hx.a8,hx.i2,hx.i3,hy.i4,hx.i5,hx.i6,hx.w,⟨hx.m.1,hx.m.2.1,hx.m.2.2.1,hx.m.2.2.2.1,hx.m.2.2.2.2.1,hx.m.2.2.2.2.2.1,hx.m.2.2.2.2.2.2.1,hx.m.2.2.2.2.2.2.2⟩⟩
 | 4,_,_=>⟨hx.a0,hx.a1,hx.a7,hx.a8,hx.i2,hx.i3,hx.i4,hy.i5,hx.i6,hx.w,⟨hx.m.1,hx.m.2.1,hx.m.2.2.1,hx.m.2.2.2.1,hx.m.2.2.2.2.1,hx.m.2.2.2.2.2.1,hx.m.2.2.2.2.2.2.1,hx.m.2.2.2.2.2.2.2⟩⟩
 | 5,_,_=>⟨hx.a0,hx.a1,hx.a7,hx.a8,hx.i2,hx.i3,hx.i4,hx.i5,hy.i6,hx.w,⟨hx.m.1,hx.m.2.1,hx.m.2.2.1,hx.m.2.2.2.1,hx.m.2.2.2.2.1,hx.m.2.2.2.2.2.1,hx.m.2.2.2.2.2.2.1,hx.m.2.2.2.2.2.2.2⟩⟩
 | 6,_,_=>⟨hx.a0,hx.a1,hy.a7,hx.a8,hx.i2,hx.i3,hx.i4,hx.i5,hx.i6,hx.w,⟨hx.m.1,hx.m.2.1,hx.m.2.2.1,hx.m.2.2.2.1,hx.m.2.2.2.2.1,hx.m.2.2.2.2.2.1,hx.m.2.2.2.2.2.2.1,hx.m.2.2.2.2.2.2.2⟩⟩
 | 7,_,_=>⟨hx.a0,hx.a1,hx.a7,hy.a8,hx.i2,hx.i3,hx.i4,hx.i5,hx.i6,hx.w,⟨hx.m.1,hx.m.2.1,hx.m.2.2.1,hx.m.2.2.2.1,hx.m.2.2.2.2.1,hx.m.2.2.2.2.2.1,hx.m.2.2.2.2.2.2.1,hx.m.2.2.2.2.2.2.2⟩⟩
 | 8,_,_=>⟨hx.a0,hx.a1,hx.a7,hx.a8,hx.i2,hx.i3,hx.i4,hx.i5,hx.i6,hx.w,⟨hx.m.1,hx.m.2.1,hx.m.2.2.1,hx.m.2.2.2.1,hx.m.2.2.2.2.1,hx.m.2.2.2.2.2.1,hx.m.2.2.2.2.2.2.1,hx.m.2.2.2.2.2.2.2⟩⟩
 | 9,_,_=>⟨hx.a0,hx.a1,hx.a7,hx.a8,hx.i2,hx.i3,hx.i4,hx.i5,hx.i6,hy.w,⟨hx.m.1,hx.m.2.1,hx.m.2.2.1,hx.m.2.2.2.1,hx.m.2.2.2.2.1,hx.m.2.2.2.2.2.1,hx.m.2.2.2.2.2.2.1,hx.m.2.2.2.2.2.2.2⟩⟩
 | 10,_,_=>⟨hx.a0,hx.a1,hx.a7,hx.a8,hx.i2,hx.i3,hx.i4,hx.i5,hx.i6,hx.w,⟨hy.m.1,hx.m.2.1,hx.m.2.2.1,hx.m.2.2.2.1,hx.m.2.2.2.2.1,hx.m.2.2.2.2.2.1,hx.m.2.2.2.2.2.2.1,hx.m.2.2.2.2.2.2.2⟩⟩
 | 11,_,_=>⟨hx.a0,hx.a1,hx.a7,hx.a8,hx.i2,hx.i3,hx.i4,hx.i5,hx.i6,hx.w,⟨hx.m.1,hy.m.2.1,hx.m.2.2.1,hx.m.2.2.2.1,hx.m.2.2.2.2.1,hx.m.2.2.2.2.2.1,hx.m.2.2.2.2.2.2.1,hx.m.2.2.2.2.2.2.2⟩⟩
 | 12,_,_=>⟨hx.a0,hx.a1,hx.a7,hx.a8,hx.i2,hx.i3,hx.i4,hx.i5,hx.i6,hx.w,⟨hx.m.1,hx.m.2.1,hy.m.2.2.1,hx.m.2.2.2.1,hx.m.2.2.2.2.1,hx.m.2.2.2.2.2.1,hx.m.2.2.2.2.2.2.1,hx.m.2.2.2.2.2.2.2⟩⟩
 | 13,_,_=>⟨hx.a0,hx.a1,hx.a7,hx.a8,hx.i2,hx.i3,hx.i4,hx.i5,hx.i6,hx.w,⟨hx.m.1,hx.m.2.1,hx.m.2.2.1,hy.m.2.2.2.1,hx.m.2.2.2.2.1,hx.m.2.2.2.2.2.1,hx.m.2.2.2.2.2.2.1,hx.m.2.2.2.2.2.2.2⟩⟩
 | 14,_,_=>⟨hx.a0,hx.a1,hx.a7,hx.a8,hx.i2,hx.i3,hx.i4,hx.i5,hx.i6,hx.w,⟨hx.m.1,hx.m.2.1,hx.m.2.2.1,hx.m.2.2.2.1,hy.m.2.2.2.2.1,hx.m.2.2.2.2.2.1,hx.m.2.2.2.2.2.2.1,hx.m.2.2.2.2.2.2.2⟩⟩
 | 15,_,_=>⟨hx.a0,hx.a1,hx.a7,hx.a8,hx.i2,hx.i3,hx.i4,hx.i5,hx.i6,hx.w,⟨hx.m.1,hx.m.2.1,hx.m.2.2.1,hx.m.2.2.2.1,hx.m.2.2.2.2.1,hy.m.2.2.2.2.2.1,hx.m.2.2.2.2.2.2.1,hx.m.2.2.2.2.2.2.2⟩⟩
 | 16,_,_=>⟨hx.a0,hx.a1,hx.a7,hx.a8,hx.i2,hx.i3,hx.i4,hx.i5,hx.i6,hx.w,⟨hx.m.1,hx.m.2.1,hx.m.2.2.1,hx.m.2.2.2.1,hx.m.2.2.2.2.1,hx.m.2.2.2.2.2.1,hy.m.2.2.2.2.2.2.1,hx.m.2.2.2.2.2.2.2⟩⟩
 | 17,_,_=>⟨hx.a0,hx.a1,hx.a7,hx.a8,hx.i2,hx.i3,hx.i4,hx.i5,hx.i6,hx.w,⟨hx.m.1,hx.m.2.1,hx.m.2.2.1,hx.m.2.2.2.1,hx.m.2.2.2.2.1,hx.m.2.2.2.2.2.1,hx.m.2.2.2.2.2.2.1,hy.m.2.2.2.2.2.2.2⟩⟩
 |t+18,_,h2=>absurd h2 (by omega)
theorem else_no{x y:OMsg}(hm:mayM x=true)(hx:rgP x)(hy:rgP y){t:Nat}(h1:1<=t)(h2:t<=17)(hb:hasB x.a0 t=false):putF x y t=x∨mayM (putF x y t)=false:=by
 cases hz:mayM (putF x y t)with
 |false=>exact .inr rfl
 |true=>
  refine .inl ?_
  have ax:=mayM_all hm
  have az:=mayM_all hz
  refine put_inj (goodF_of az (rgP_putF hx hy t h1 h2)) (goodF_of ax hx) (putF_a0 x y t) (putF_a1 x y t) fun k _ _=>?_
  by_cases e:k=t
  ·subst e
   rw[no_of ax k hb,no_of az k (by rw[putF_a0];exact hb)]
  ·exact putF_ne x y t h1 h2 k e
abbrev LE2:=Code->Nat->List Value->List (Option AObj)->(Bool->Prop)->Prop
def sLpE(L:LQt):LpS:=lpS [4] fun c n vals obs K=>L c n vals obs (K (.exit 0) [top] [none,none]) (K .ret [.bool false] [none,none])
def sLpE2(L:LE2):LpS:=lpS [2,3,5,6,7] fun c n vals obs K=>match vals with
 | [p,q,d,t,_,_]=>L c n vals obs fun b=>K (.exit 2) [p,q,d,t,.bool b] obs
 |_=>False
def gEls(N:Nd)(MG MM:ML1)(MH:MHs)(L:LQt)(x y:OMsg)(K:Value->Prop):Prop:=wpe Tryz.prog N (howOf Z0 Zp [] [(5,(65,([2,3,5,6],sLpE L)))] [(23,sL1 MG),(18,sL1 MM),(11,sAw),(13,sHs MH)] []) 300 (.call 5 [vMsg x,vMsg y] h0) (retV K)
theorem gEls_eq(N:Nd)(MG MM:ML1)(MH:MHs)(L:LQt)(x y:OMsg)(K:Value->Prop):gEls N MG MM MH L x y K=MG (vMsg x) (K (.bool true)) (MG (vMsg y) (K (.bool true)) (MM (vMsg x) (MH (x.a0:Int) fun rs=>L (loopIn Tryz.prog 5 5) 65 [pA 100,pA 101,dsl rs,.int .u8 1] [some (cM x),some (cM y)] (K (.bool true)) (K (.bool false))) (K (.bool true)))):=by kernel_rfl
def gElsR(N:Nd)(L:LE2)(MP:MPt)(MS:MSm)(MN:ML1)(x y:OMsg)(rs:List Value)(t:Int)(back:List Value->List (Option AObj)->Prop)(out:Exit->List Value->List (Option AObj)->Prop):Prop:=
 wpe Tryz.prog N (howOf Z0 Zp [] [(9,(65,([2,3,5,6,7,8],sLpE2 L)))] [(24,sPt MP),(22,sSm MS),(20,sL1 MN)] []) 300 (.code false (loopIn Tryz.prog 5 5) (stOf 100 65 [2,3,5,6] [] ([pA 100,pA 101,dsl rs,.int .u8 t],[some (cM x),some (cM y)]))) (roundQ 100 [2,3,5,6] [4] 65 [] back out)
def nxE(N:Nd)(x y z:OMsg)(rs:List Value)(t:Int)(back:List Value->List (Option AObj)->Prop):Prop:=N.ari .add .u8 t .u8 1 fun t'=>([]:List Deferred)=[]/\back [pA 100,pA 101,dsl rs,.int .u8 t'] [some (cM x),some (cM y),some (cM z)]
theorem gElsR_eq(N:Nd)(L:LE2)(MP:MPt)(MS:MSm)(MN:ML1)(x y:OMsg)(rs:List Value)(t:Int)(back:Bk)(out:Ot):gElsR N L MP MS MN x y rs t back out=N.cmp .leq .u8 t .u8 17 (L (loopIn Tryz.prog 5 9) 65 [pA 100,pA 101,dsl rs,.int .u8 t,.bool false,.int .i64 0] [some (cM x),some (cM y)] fun b=>MP (vMsg x) (vMsg y) t fun z=>branch b (nxE N x y z rs t back) (MS (vMsg z) (vMsg x) (nxE N x y z rs t back) (MN (vMsg z) (nxE N x y z rs t back) (([]:List Deferred)=[]/\out .ret [.bool false] [some (cM x),some (cM y),some (cM z)]))))
 (([]:List Deferred)=[]/\out (.exit 0) [top] [some (cM x),some (cM y)]):=by kernel_rfl
def gElsI(N:Nd)(x y:OMsg)(rs:List Value)(t:Int)(b:Bool)(i:Int)(back:List Value->List (Option AObj)->Prop)(out:Exit->List Value->List (Option AObj)->Prop):Prop:=
 wpe Tryz.prog N (howOf Z0 Zp [] [] [] []) 300 (.code false (loopIn Tryz.prog 5 9) (stOf 100 65 [2,3,5,6,7,8] [] ([pA 100,pA 101,dsl rs,.int .u8 t,.bool b,.int .i64 i],[some (cM x),some (cM y)]))) (roundQ 100 [2,3,5,6,7,8] [2,3,5,6,7] 65 [] back out)
def nxI(N:Nd)(x y:OMsg)(rs:List Value)(t i:Int)(back:List Value->List (Option AObj)->Prop)(b:Bool):Prop:=N.ari .add .i64 i .i64 1 fun j=>([]:List Deferred)=[]/\back [pA 100,pA 101,dsl rs,.int .u8 t,.bool b,.int .i64 j] [some (cM x),some (cM y)]
theorem gElsI_eq(N:Nd)(x y:OMsg)(rs:List Value)(t:Int)(b:Bool)(i:Int)(back:Bk)(out:Ot):gElsI N x y rs t b i back out=N.dlen rs fun n=>N.cmp .lss .i64 i .i64 n (branch b (nxI N x y rs t i back true) (N.dget rs i 1 fun c=>N.rdI .u8 c 0 fun z=>N.cmp .eql .u8 z .u8 t (nxI N x y rs t i back true) (nxI N x y rs t i back false)))
 (([]:List Deferred)=[]/\out (.exit 2) [pA 100,pA 101,dsl rs,.int .u8 t,.bool b] [some (cM x),some (cM y)]):=by kernel_rfl
structure StE(ts:List Nat)(t:Nat) where
 i:Nat
 b:Bool
 le:i<=ts.length
 iff:b=true↔t∈ts.take i
def IE2(x y:OMsg)(ts:List Nat)(t:Nat)(a:StE ts t):List Value×List (Option AObj):=([pA 100,pA 101,dsl (rowsOf cU8 ts),.int .u8 (t:Int),.bool a.b,.int .i64 (a.i:Int)],[some (cM x),some (cM y)])
def RE2(x y:OMsg)(ts:List Nat)(t:Nat)(e:Exit)(v:List Value)(o:List (Option AObj)):Prop:=e = .exit 2/\(∃b:Bool,(b=true↔t∈ts)/\v=[pA 100,pA 101,dsl (rowsOf cU8 ts),.int .u8 (t:Int),.bool b])/\o=[some (cM x),some (cM y)]
theorem rndE2(x y:OMsg)(ts:List Nat)(t:Nat)(hts:ts.length<1000)(a:StE ts t):Is (wpe Tryz.prog (real Tryz.prog) (howOf Z0 Zp [] [] [] []) 300 (.code false (loopIn Tryz.prog 5 9) (stOf 100 65 [2,3,5,6,7,8] [] (IE2 x y ts t a))) (roundQ 100 [2,3,5,6,7,8] [2,3,5,6,7] 65 []
   (fun vals objs=>∃a':StE ts t,ts.length-a'.i<ts.length-a.i/\Wk 100 (100+2) vals objs (IE2 x y ts t a').1 (IE2 x y ts t a').2/\∀e v o,RE2 x y ts t e v o->RE2 x y ts t e v o)
   (fun e vals objs=>∃v o,Wk 100 (100+2) vals objs v o/\RE2 x y ts t e v o))):=by
 refine⟨?_⟩
 obtain⟨i,b,le,iff⟩:=a
 show gElsI (real Tryz.prog) x y (rowsOf cU8 ts) (t:Int) b (i:Int) _ _
 rw[gElsI_eq]
 refine n_dlen ts.length (rowsOf_len _ _) (n_ltN (fun hlt=>?_) (fun hge=>?_))
 ·have ha:ts[i]?=some ts[i]:=List.getElem?_eq_getElem hlt
  have hms:ts.length-(i+1)<ts.length-i:=by omega
  generalize ts[i]=c at ha
  have htk:∀s,s∈ts.take (i+1)↔s∈ts.take i∨s=c:=fun s=>by rw[List.take_add_one,ha];simp
  have nx:∀b',(b'=true↔t∈ts.take (i+1))->nxI (real Tryz.prog) x y (rowsOf cU8 ts) (t:Int) (i:Int) (fun vals objs=>∃a':StE ts t,ts.length-a'.i<ts.length-i/\Wk 100 (100+2) vals objs (IE2 x y ts t a').1 (IE2 x y ts t a').2/\∀e v o,RE2 x y ts t e v o->RE2 x y ts t e v o) b':=fun b' h=>
   n_inc (by omega) ⟨rfl,⟨i+1,b',hlt,h⟩,hms,Wk.refl _ _ _ _,fun _ _ _ h=>h⟩
  cases b with
  |true=>exact nx true ⟨fun _=>(htk t).2 (.inl (iff.1 rfl)),fun _=>rfl⟩
  |false=>
   have hn:¬t∈ts.take i:=fun h=>by cases iff.2 h
   refine n_dget i rfl (rowsOf_get ha) rfl (n_rdI rfl (n_eqN (fun h=>?_) (fun h=>?_)))
   ·have he:c=t:=h
    exact nx true ⟨fun _=>(htk t).2 (.inr he.symm),fun _=>rfl⟩
   ·have he:c≠t:=h
    exact nx false ⟨fun h=>(by cases h),fun h=>((htk t).1 h).elim (fun h=>absurd h hn) (fun h=>absurd h.symm he)⟩
 ·have e:i=ts.length:=by omega
  subst e
  exact⟨rfl,_,_,Wk.refl _ _ _ _,rfl,⟨b,by rw[List.take_length]at iff;exact iff,rfl⟩,rfl⟩
def LE2r(x y:OMsg)(ts:List Nat):LE2:=fun c n vals obs A=>∃t:Nat,c=loopIn Tryz.prog 5 9/\n=65/\vals=[pA 100,pA 101,dsl (rowsOf cU8 ts),.int .u8 (t:Int),.bool false,.int .i64 0]/\obs=[some (cM x),some (cM y)]/\(t∈ts->A true)/\(t ∉ ts->A false)
theorem lpE2(x y:OMsg)(ts:List Nat)(hts:ts.length<1000):LoopOk Tryz.prog 100 [2,3,5,6,7,8] (sLpE2 (LE2r x y ts)):=by
 show LoopOk Tryz.prog 100 [2,3,5,6,7,8] (lpS [2,3,5,6,7] _)
 refine lp_mk okp (W:=howOf Z0 Zp [] [] [] []) kn_none lp_none ?_
 intro c n vals obs K h
 split at h<;>try exact h.elim
 obtain⟨t,hc,hn,hv,ho,hA,hE⟩:=h
 simp only[List.cons.injEq,and_true]at hv
 obtain⟨rfl,rfl,rfl,rfl,rfl,rfl⟩:=hv
 subst hc;subst hn;subst ho
 refine⟨StE ts t,2,300,fun a=>ts.length-a.i,IE2 x y ts t,fun _ e v o=>RE2 x y ts t e v o,⟨0,false,Nat.zero_le _,by simp⟩,rfl,Wk.refl _ _ _ _,?_,rndE2 x y ts t hts⟩
 rintro e v o ⟨rfl,⟨b,hb,rfl⟩,rfl⟩
 cases b with
 |true=>exact hA (hb.1 rfl)
 |false=>exact hE fun h=>nomatch hb.2 h
def IEl(x y:OMsg)(t:{t:Nat // InvH t}):List Value×List (Option AObj):=([pA 100,pA 101,dsl (rowsOf cU8 (hasT x.a0 17)),.int .u8 (t.1:Int)],[some (cM x),some (cM y)])
def REl(e:Exit)(v:List Value)(o:List (Option AObj)):Prop:=e = .exit 0/\v=[top]/\o=[none,none]
theorem wk_el{vals:List Value}{x y:OMsg}{extra:List (Option AObj)}(hv:belowL 102 vals=true):Wk 100 (100+2) vals (some (cM x)::some (cM y)::extra) vals [some (cM x),some (cM y)]:=
 wk_first (k0:=2) (by simp) hv rfl
theorem rndEl{x y:OMsg}(hm:mayM x=true)(hx:rgP x)(hy:rgP y)(ox:okP x)(oy:okP y)(t:{t:Nat // InvH t}):Is (wpe Tryz.prog (real Tryz.prog) (howOf Z0 Zp [] [(9,(65,([2,3,5,6,7,8],sLpE2 (LE2r x y (hasT x.a0 17)))))] [(24,sPt MPtr),(22,sSm (MSmr vMsg okP Eq)),(20,sL1 MNr1)] []) 300 (.code false (loopIn Tryz.prog 5 5) (stOf 100 65 [2,3,5,6] [] (IEl x y t))) (roundQ 100 [2,3,5,6] [4] 65 []
   (fun vals objs=>∃a':{t:Nat // InvH t},18-a'.1<18-t.1/\Wk 100 (100+2) vals objs (IEl x y a').1 (IEl x y a').2/\∀e v o,REl e v o->REl e v o)
   (fun e vals objs=>∃v o,Wk 100 (100+2) vals objs v o/\REl e v o))):=by
 refine⟨?_⟩
 obtain⟨t,lo,hi⟩:=t
 show gElsR (real Tryz.prog) (LE2r x y (hasT x.a0 17)) MPtr (MSmr vMsg okP Eq) MNr1 x y (rowsOf cU8 (hasT x.a0 17)) (t:Int) _ _
 rw[gElsR_eq]
 have nx:t<=17->∀z,nxE (real Tryz.prog) x y z (rowsOf cU8 (hasT x.a0 17)) (t:Int) (fun vals objs=>∃a':{t:Nat // InvH t},18-a'.1<18-t/\Wk 100 (100+2) vals objs (IEl x y a').1 (IEl x y a').2/\∀e v o,REl e v o->REl e v o):=fun h17 z=>
  n_incU8 (by omega) ⟨rfl,⟨t+1,by omega,by omega⟩,by show 18-(t+1)<18-t;omega,wk_el rfl,fun _ _ _ h=>h⟩
 refine n_leN (d:=17) (fun h17=>⟨t,rfl,rfl,rfl,rfl,fun _=>⟨x,y,t,rfl,rfl,rfl,lo,h17,nx h17 _⟩,fun hn=>⟨x,y,t,rfl,rfl,rfl,lo,h17,?_⟩⟩) (fun h17=>?_)
 ·have hb:hasB x.a0 t=false:=by
   cases hb:hasB x.a0 t with
   |false=>rfl
   |true=>exact absurd ((hasT_mem _ _ _).2 ⟨lo,h17,hb⟩) hn
  have oz:=okP_putF ox oy t lo h17
  refine⟨putF x y t,x,rfl,rfl,oz,ox,fun _=>nx h17 _,fun hne=>⟨putF x y t,rfl,oz,fun _=>nx h17 _,fun hz=>?_⟩⟩
  exact((else_no hm hx hy lo h17 hb).elim hne (fun h=>by rw[h]at hz;cases hz)).elim
 ·exact⟨rfl,[top],[none,none],wk_weak (.cons (.refl _) .nil) (.cons (.none _) (.cons (.none _) .nil)),rfl,rfl,rfl⟩
theorem pu3a{a b c:FuncId×(List Value->(Value->Prop)->Prop)}(h1:PuOk Tryz.prog 100 a.1 a.2)(h2:PuOk Tryz.prog 100 b.1 b.2)(h3:PuOk Tryz.prog 100 c.1 c.2):∀x∈[a,b,c],PuOk Tryz.prog 100 x.1 x.2:=fun x hx=>by
 simp only[List.mem_cons,List.not_mem_nil,or_false]at hx
 rcases hx with rfl|rfl|rfl
 ·exact h1
 ·exact h2
 ·exact h3
def LEr(x y:OMsg):LQt:=fun c n vals obs A E=>mayM x=true/\okP x/\okP y/\c=loopIn Tryz.prog 5 5/\n=65/\vals=[pA 100,pA 101,dsl (rowsOf cU8 (hasT x.a0 17)),.int .u8 1]/\obs=[some (cM x),some (cM y)]/\A
theorem lpEl{x y:OMsg}(hx:rgP x)(hy:rgP y):LoopOk Tryz.prog 100 [2,3,5,6] (sLpE (LEr x y)):=by
 show LoopOk Tryz.prog 100 [2,3,5,6] (lpS [4] _)
 refine lp_mk okp (W:=howOf Z0 Zp [] [(9,(65,([2,3,5,6,7,8],sLpE2 (LE2r x y (hasT x.a0 17)))))] [(24,sPt MPtr),(22,sSm (MSmr vMsg okP Eq)),(20,sL1 MNr1)] []) (kn_pu (pu3a puPt puRsm puN1)) (lp_ok fun z hz=>by simp only[List.mem_singleton]at hz;subst hz;exact lpE2 x y _ (Nat.lt_of_le_of_lt (hasT_len _ _) (by decide))) ?_
 rintro c n vals obs K ⟨hm,ox,oy,hc,hn,hv,ho,hA⟩
 subst hc;subst hn;subst hv;subst ho
 refine⟨{t:Nat // InvH t},2,300,fun a=>18-a.1,IEl x y,fun _ e v o=>REl e v o,⟨1,by omega,by omega⟩,rfl,Wk.refl _ _ _ _,?_,rndEl hm hx hy ox oy⟩
 rintro e v o ⟨rfl,rfl,rfl⟩
 exact hA
theorem elsC{x y:OMsg}(hl:lnP x)(hl2:lnP y)(hr:rgP x)(hr2:rgP y):Is (gEls (real Tryz.prog) MLr1 MMr1 MHsr (LEr x y) x y (fun v=>v = .bool true)):=by
 refine⟨?_⟩
 rw[gEls_eq]
 refine⟨x,rfl,hl,fun _=>rfl,fun hb=>⟨y,rfl,hl2,fun _=>rfl,fun hb2=>⟨x,rfl,ok_of hb hr,fun hm=>⟨x.a0,rfl,hr.a0,hm,ok_of hb hr,ok_of hb2 hr2,rfl,rfl,rfl,rfl,rfl⟩,fun _=>rfl⟩⟩⟩
theorem lawEls{x y:OMsg}(hl:lnP x)(hl2:lnP y)(hr:rgP x)(hr2:rgP y)(B:Base)(H:Heap):CallH Tryz.prog 100 B 5 [vMsg x,vMsg y] H (.returned (.bool true)) H:=
 pu_mkV okp (kn_pu (pu4 puL1 puM1 puAw puHs)) (lp_ok fun z hz=>by simp only[List.mem_singleton]at hz;subst hz;exact lpEl hr hr2) rfl (elsC hl hl2 hr hr2) B H
end
end Go.Proofs.YtblbaohcelldpaaGreatDoor.Ob
namespace Go.Proofs.YtblbaohcelldpaaGreatDoor.Ob
open Go Go.Abs Go.Tlv
def msgK:List CK:=[.int .u8,.int .u32,.int .i64,.int .i64,.int .i64,.int .i64,.int .i64,.int .u64,.int .u64,.str,.sl 29,.int .i64,.int .i64,.int .i64,.int .i64,.int .i64,.int .i64,.int .i64,.sl 30,.int .i64,.int .i64,.int .u8,.int .i64,.int .i64,.int .i64,.int .i64,.int .u8,.sl 35,.int .i64,.int .i64,.int .i64,.str,.str,.int .i64,.int .i64,.int .i64,.sl 29,.int .i64,.int .i64,.int .u64,.bool,.int .i64,.sl 40,.int .i64,.int .u8,.int .i64,.sl 43,.int .i64,.int .i64,.int .i64,.int .i64,.int .i64]
theorem msgK_eq:flatK Tryz.prog 3 51=some msgK:=by kernel_rfl
theorem wf_i64{z:Int}(h:(Lit.int .i64 z).wf=true):z<=9223372036854775807:=by
 simp[Lit.wf,IntKind.min,IntKind.max,IntKind.signed,IntKind.bits]at h
 omega
theorem wf_i64b{z:Int}(h:(Lit.int .i64 z).wf=true) : -9223372036854775808<=z/\z<=9223372036854775807:=by
 simp[Lit.wf,IntKind.min,IntKind.max,IntKind.signed,IntKind.bits]at h
 omega
section
variable {H:Type} {enc:TypeId×Value->H} {W:World} {r:List Value}
theorem cks_nat(h:CksOk enc Tryz.prog W 0 (fun _=>true) true [.int .u64] r):∃x:Nat,r=cNat x/\wfNat x:=by
 obtain⟨_,r0,rfl,⟨z0,rfl,w0⟩,h⟩:=h
 simp only[CksOk]at h
 subst h
 obtain⟨m0,rfl,b0⟩:=wf_u64 w0
 exact⟨m0,rfl,b0⟩
theorem cks_nat_pl(h:CksOk enc Tryz.prog W 0 (fun _=>true) true [.int .u64] r):plainL r=true:=by
 obtain⟨_,r0,rfl,⟨z0,rfl,w0⟩,h⟩:=h
 simp only[CksOk]at h
 subst h
 rfl
theorem cks_int(h:CksOk enc Tryz.prog W 0 (fun _=>true) true [.int .i64] r):∃x:Int,r=cInt x/\wfInt x:=by
 obtain⟨_,r0,rfl,⟨z0,rfl,w0⟩,h⟩:=h
 simp only[CksOk]at h
 subst h
 exact⟨z0,rfl,trivial⟩
theorem cks_int_pl(h:CksOk enc Tryz.prog W 0 (fun _=>true) true [.int .i64] r):plainL r=true:=by
 obtain⟨_,r0,rfl,⟨z0,rfl,w0⟩,h⟩:=h
 simp only[CksOk]at h
 subst h
 rfl
theorem cks_arm(h:CksOk enc Tryz.prog W 0 (fun _=>true) true [.int .u32,.int .i64] r):∃x:Arm,r=cArm x/\rgArm x:=by
 obtain⟨_,r0,rfl,⟨z0,rfl,w0⟩,h⟩:=h
 obtain⟨_,r1,rfl,⟨z1,rfl,w1⟩,h⟩:=h
 simp only[CksOk]at h
 subst h
 obtain⟨m0,rfl,b0⟩:=wf_u32 w0
 exact⟨⟨m0,z1⟩,rfl,b0⟩
theorem cks_arm_pl(h:CksOk enc Tryz.prog W 0 (fun _=>true) true [.int .u32,.int .i64] r):plainL r=true:=by
 obtain⟨_,r0,rfl,⟨z0,rfl,w0⟩,h⟩:=h
 obtain⟨_,r1,rfl,⟨z1,rfl,w1⟩,h⟩:=h
 simp only[CksOk]at h
 subst h
 rfl
theorem cks_instr(h:CksOk enc Tryz.prog W 0 (fun _=>true) true [.int .u8,.int .i64,.int .u8,.int .u64,.int .u8,.int .u64,.int .i64] r):∃x:Instr,r=cInstr x/\rgInstr x:=by
 obtain⟨_,r0,rfl,⟨z0,rfl,w0⟩,h⟩:=h
 obtain⟨_,r1,rfl,⟨z1,rfl,w1⟩,h⟩:=h
 obtain⟨_,r2,rfl,⟨z2,rfl,w2⟩,h⟩:=h
 obtain⟨_,r3,rfl,⟨z3,rfl,w3⟩,h⟩:=h
 obtain⟨_,r4,rfl,⟨z4,rfl,w4⟩,h⟩:=h
 obtain⟨_,r5,rfl,⟨z5,rfl,w5⟩,h⟩:=h
 obtain⟨_,r6,rfl,⟨z6,rfl,w6⟩,h⟩:=h
 simp only[CksOk]at h
 subst h
 obtain⟨m0,rfl,b0⟩:=wf_u8 w0
 obtain⟨m2,rfl,b2⟩:=wf_u8 w2
 obtain⟨m3,rfl,b3⟩:=wf_u64 w3
 obtain⟨m4,rfl,b4⟩:=wf_u8 w4
 obtain⟨m5,rfl,b5⟩:=wf_u64 w5
 exact⟨⟨m0,z1,m2,m3,m4,m5,z6⟩,rfl,b0,b2,b3,b4,b5⟩
theorem cks_instr_pl(h:CksOk enc Tryz.prog W 0 (fun _=>true) true [.int .u8,.int .i64,.int .u8,.int .u64,.int .u8,.int .u64,.int .i64] r):plainL r=true:=by
 obtain⟨_,r0,rfl,⟨z0,rfl,w0⟩,h⟩:=h
 obtain⟨_,r1,rfl,⟨z1,rfl,w1⟩,h⟩:=h
 obtain⟨_,r2,rfl,⟨z2,rfl,w2⟩,h⟩:=h
 obtain⟨_,r3,rfl,⟨z3,rfl,w3⟩,h⟩:=h
 obtain⟨_,r4,rfl,⟨z4,rfl,w4⟩,h⟩:=h
 obtain⟨_,r5,rfl,⟨z5,rfl,w5⟩,h⟩:=h
 obtain⟨_,r6,rfl,⟨z6,rfl,w6⟩,h⟩:=h
 simp only[CksOk]at h
 subst h
 rfl
theorem cks_bucket(h:CksOk enc Tryz.prog W 0 (fun _=>true) true [.int .u64,.int .i64] r):∃x:Bucket,r=cBucket x/\rgBucket x:=by
 obtain⟨_,r0,rfl,⟨z0,rfl,w0⟩,h⟩:=h
 obtain⟨_,r1,rfl,⟨z1,rfl,w1⟩,h⟩:=h
 simp only[CksOk]at h
 subst h
 obtain⟨m0,rfl,b0⟩:=wf_u64 w0
 exact⟨⟨m0,z1⟩,rfl,b0⟩
theorem cks_bucket_pl(h:CksOk enc Tryz.prog W 0 (fun _=>true) true [.int .u64,.int .i64] r):plainL r=true:=by
 obtain⟨_,r0,rfl,⟨z0,rfl,w0⟩,h⟩:=h
 obtain⟨_,r1,rfl,⟨z1,rfl,w1⟩,h⟩:=h
 simp only[CksOk]at h
 subst h
 rfl
end
set_option maxRecDepth 100000 in
set_option maxHeartbeats 4000000 in
theorem msg_of{H:Type}{enc:TypeId×Value->H}{W:World}{cs1:List Value}(h1:CksOk enc Tryz.prog W 0 (fun _=>true) true msgK cs1):
  ∃x:OMsg,VR (deepN W) (vMsg x) (.agg ⟨cs1⟩)/\lnP x/\rgP x:=by
 unfold msgK at h1
 obtain⟨_,rr0,rfl,⟨a0,rfl,w0⟩,h1⟩:=h1
 obtain⟨_,rr1,rfl,⟨a1,rfl,w1⟩,h1⟩:=h1
 obtain⟨_,rr2,rfl,⟨a2,rfl,w2⟩,h1⟩:=h1
 obtain⟨_,rr3,rfl,⟨a3,rfl,w3⟩,h1⟩:=h1
 obtain⟨_,rr4,rfl,⟨a4,rfl,w4⟩,h1⟩:=h1
 obtain⟨_,rr5,rfl,⟨a5,rfl,w5⟩,h1⟩:=h1
 obtain⟨_,rr6,rfl,⟨a6,rfl,w6⟩,h1⟩:=h1
 obtain⟨_,rr7,rfl,⟨a7,rfl,w7⟩,h1⟩:=h1
 obtain⟨_,rr8,rfl,⟨a8,rfl,w8⟩,h1⟩:=h1
 obtain⟨_,rr9,rfl,⟨a9,rfl,_⟩,h1⟩:=h1
 obtain⟨v10,rr10,rfl,s10,h1⟩:=h1
 obtain⟨_,rr11,rfl,⟨n_id,rfl,w11⟩,h1⟩:=h1
 obtain⟨_,rr12,rfl,⟨n_size,rfl,w12⟩,h1⟩:=h1
 obtain⟨_,rr13,rfl,⟨n_lo,rfl,w13⟩,h1⟩:=h1
 obtain⟨_,rr14,rfl,⟨n_lw,rfl,w14⟩,h1⟩:=h1
 obtain⟨_,rr15,rfl,⟨n_lu,rfl,w15⟩,h1⟩:=h1
 obtain⟨_,rr16,rfl,⟨n_so,rfl,w16⟩,h1⟩:=h1
 obtain⟨_,rr17,rfl,⟨n_sw,rfl,w17⟩,h1⟩:=h1
 obtain⟨v18,rr18,rfl,s18,h1⟩:=h1
 obtain⟨_,rr19,rfl,⟨n_ot,rfl,w19⟩,h1⟩:=h1
 obtain⟨_,rr20,rfl,⟨f_id,rfl,w20⟩,h1⟩:=h1
 obtain⟨_,rr21,rfl,⟨f_base,rfl,w21⟩,h1⟩:=h1
 obtain⟨_,rr22,rfl,⟨f_node,rfl,w22⟩,h1⟩:=h1
 obtain⟨_,rr23,rfl,⟨f_off,rfl,w23⟩,h1⟩:=h1
 obtain⟨_,rr24,rfl,⟨f_wid,rfl,w24⟩,h1⟩:=h1
 obtain⟨_,rr25,rfl,⟨t_id,rfl,w25⟩,h1⟩:=h1
 obtain⟨_,rr26,rfl,⟨t_kind,rfl,w26⟩,h1⟩:=h1
 obtain⟨v27,rr27,rfl,s27,h1⟩:=h1
 obtain⟨_,rr28,rfl,⟨t_cap,rfl,w28⟩,h1⟩:=h1
 obtain⟨_,rr29,rfl,⟨t_miss,rfl,w29⟩,h1⟩:=h1
 obtain⟨_,rr30,rfl,⟨e_tab,rfl,w30⟩,h1⟩:=h1
 obtain⟨_,rr31,rfl,⟨e_key,rfl,_⟩,h1⟩:=h1
 obtain⟨_,rr32,rfl,⟨e_oth,rfl,_⟩,h1⟩:=h1
 obtain⟨_,rr33,rfl,⟨e_len,rfl,w33⟩,h1⟩:=h1
 obtain⟨_,rr34,rfl,⟨e_prio,rfl,w34⟩,h1⟩:=h1
 obtain⟨_,rr35,rfl,⟨e_blk,rfl,w35⟩,h1⟩:=h1
 obtain⟨v36,rr36,rfl,s36,h1⟩:=h1
 obtain⟨_,rr37,rfl,⟨e_idle,rfl,w37⟩,h1⟩:=h1
 obtain⟨_,rr38,rfl,⟨e_hard,rfl,w38⟩,h1⟩:=h1
 obtain⟨_,rr39,rfl,⟨e_cook,rfl,w39⟩,h1⟩:=h1
 obtain⟨_,rr40,rfl,⟨e_tell,rfl⟩,h1⟩:=h1
 obtain⟨_,rr41,rfl,⟨b_id,rfl,w41⟩,h1⟩:=h1
 obtain⟨v42,rr42,rfl,s42,h1⟩:=h1
 obtain⟨_,rr43,rfl,⟨g_id,rfl,w43⟩,h1⟩:=h1
 obtain⟨_,rr44,rfl,⟨g_kind,rfl,w44⟩,h1⟩:=h1
 obtain⟨_,rr45,rfl,⟨g_fld,rfl,w45⟩,h1⟩:=h1
 obtain⟨v46,rr46,rfl,s46,h1⟩:=h1
 obtain⟨_,rr47,rfl,⟨m_id,rfl,w47⟩,h1⟩:=h1
 obtain⟨_,rr48,rfl,⟨m_rate,rfl,w48⟩,h1⟩:=h1
 obtain⟨_,rr49,rfl,⟨m_burst,rfl,w49⟩,h1⟩:=h1
 obtain⟨_,rr50,rfl,⟨r_id,rfl,w50⟩,h1⟩:=h1
 obtain⟨_,rr51,rfl,⟨r_size,rfl,w51⟩,h1⟩:=h1
 simp only[CksOk]at h1
 subst h1
 obtain⟨a0,rfl,bb0⟩:=wf_u8 w0
 obtain⟨a1,rfl,bb1⟩:=wf_u32 w1
 obtain⟨a7,rfl,bb7⟩:=wf_u64 w7
 obtain⟨a8,rfl,bb8⟩:=wf_u64 w8
 obtain⟨f_base,rfl,bb21⟩:=wf_u8 w21
 obtain⟨t_kind,rfl,bb26⟩:=wf_u8 w26
 obtain⟨e_cook,rfl,bb39⟩:=wf_u64 w39
 obtain⟨g_kind,rfl,bb44⟩:=wf_u8 w44
 obtain⟨rows10,hr10,hl10,hv10⟩:=deep_slice (ks:=[.int .u64]) (d:=3) (t:=29) (e:=28) (by kernel_rfl) (by kernel_rfl) (by kernel_rfl) (by simp) (Nat.le_of_ble_eq_true (by kernel_rfl)) (fun _ h=>cks_nat_pl h) s10
 obtain⟨a10,rfl,wl10⟩:=rows_of (c:=cNat) (wf:=wfNat) (fun r h=>cks_nat (hr10 r h))
 rw[List.length_map]at hl10
 rw[List.map_map]at hv10
 obtain⟨rows18,hr18,hl18,hv18⟩:=deep_slice (ks:=[.int .u32,.int .i64]) (d:=3) (t:=30) (e:=61) (by kernel_rfl) (by kernel_rfl) (by kernel_rfl) (by simp) (Nat.le_of_ble_eq_true (by kernel_rfl)) (fun _ h=>cks_arm_pl h) s18
 obtain⟨n_arms,rfl,wl18⟩:=rows_of (c:=cArm) (wf:=rgArm) (fun r h=>cks_arm (hr18 r h))
 rw[List.length_map]at hl18
 rw[List.map_map]at hv18
 obtain⟨rows27,hr27,hl27,hv27⟩:=deep_slice (ks:=[.int .i64]) (d:=3) (t:=35) (e:=3) (by kernel_rfl) (by kernel_rfl) (by kernel_rfl) (by simp) (Nat.le_of_ble_eq_true (by kernel_rfl)) (fun _ h=>cks_int_pl h) s27
 obtain⟨t_keys,rfl,wl27⟩:=rows_of (c:=cInt) (wf:=wfInt) (fun r h=>cks_int (hr27 r h))
 rw[List.length_map]at hl27
 rw[List.map_map]at hv27
 obtain⟨rows36,hr36,hl36,hv36⟩:=deep_slice (ks:=[.int .u64]) (d:=3) (t:=29) (e:=28) (by kernel_rfl) (by kernel_rfl) (by kernel_rfl) (by simp) (Nat.le_of_ble_eq_true (by kernel_rfl)) (fun _ h=>cks_nat_pl h) s36
 obtain⟨e_args,rfl,wl36⟩:=rows_of (c:=cNat) (wf:=wfNat) (fun r h=>cks_nat (hr36 r h))
 rw[List.length_map]at hl36
 rw[List.map_map]at hv36
 obtain⟨rows42,hr42,hl42,hv42⟩:=deep_slice (ks:=[.int .u8,.int .i64,.int .u8,.int .u64,.int .u8,.int .u64,.int .i64]) (d:=3) (t:=40) (e:=66) (by kernel_rfl) (by kernel_rfl) (by kernel_rfl) (by simp) (Nat.le_of_ble_eq_true (by kernel_rfl)) (fun _ h=>cks_instr_pl h) s42
 obtain⟨b_code,rfl,wl42⟩:=rows_of (c:=cInstr) (wf:=rgInstr) (fun r h=>cks_instr (hr42 r h))
 rw[List.length_map]at hl42
 rw[List.map_map]at hv42
 obtain⟨rows46,hr46,hl46,hv46⟩:=deep_slice (ks:=[.int .u64,.int .i64]) (d:=3) (t:=43) (e:=181) (by kernel_rfl) (by kernel_rfl) (by kernel_rfl) (by simp) (Nat.le_of_ble_eq_true (by kernel_rfl)) (fun _ h=>cks_bucket_pl h) s46
 obtain⟨g_bks,rfl,wl46⟩:=rows_of (c:=cBucket) (wf:=rgBucket) (fun r h=>cks_bucket (hr46 r h))
 rw[List.length_map]at hl46
 rw[List.map_map]at hv46
 exact⟨⟨a0,a1,a2,a3,a4,a5,a6,a7,a8,a9,a10,⟨n_id,n_size,n_lo,n_lw,n_lu,n_so,n_sw,n_arms,n_ot⟩,⟨f_id,f_base,f_node,f_off,f_wid⟩,⟨t_id,t_kind,t_keys,t_cap,t_miss⟩,⟨e_tab,e_key,e_oth,e_len,e_prio,e_blk,e_args,e_idle,e_hard,e_cook,e_tell⟩,⟨b_id,b_code⟩,⟨g_id,g_kind,g_fld,g_bks⟩,⟨m_id,m_rate,m_burst⟩,⟨r_id,r_size⟩⟩,vr_agg (vr_cons vr_int (vr_cons vr_int (vr_cons vr_int (vr_cons vr_int (vr_cons vr_int (vr_cons vr_int (vr_cons vr_int (vr_cons vr_int (vr_cons vr_int (vr_cons vr_str (vr_cons hv10 (vr_cons vr_int (vr_cons vr_int (vr_cons vr_int (vr_cons vr_int (vr_cons vr_int (vr_cons vr_int (vr_cons vr_int (vr_cons hv18 (vr_cons vr_int (vr_cons vr_int (vr_cons vr_int (vr_cons vr_int (vr_cons vr_int (vr_cons vr_int (vr_cons vr_int (vr_cons vr_int (vr_cons hv27 (vr_cons vr_int (vr_cons vr_int (vr_cons vr_int (vr_cons vr_str (vr_cons vr_str (vr_cons vr_int (vr_cons vr_int (vr_cons vr_int (vr_cons hv36 (vr_cons vr_int (vr_cons vr_int (vr_cons vr_int (vr_cons vr_bool (vr_cons vr_int (vr_cons hv42 (vr_cons vr_int (vr_cons vr_int (vr_cons vr_int (vr_cons hv46 (vr_cons vr_int (vr_cons vr_int (vr_cons vr_int (vr_cons vr_int (vr_cons vr_int vr_nil)))))))))))))))))))))))))))))))))))))))))))))))))))),⟨hl10,hl18,hl27,hl36,hl42,hl46⟩,⟨bb0,bb1,bb7,bb8,wf_i64b w2,wf_i64b w3,wf_i64b w4,wf_i64b w5,wf_i64b w6,wl10,⟨wl18,bb21,bb26,⟨wl36,bb39,wf_i64 w37,wf_i64 w38⟩,wl42,⟨bb44,wl46⟩,⟨wf_i64 w48,wf_i64 w49⟩,trivial⟩⟩⟩
theorem laid_tab{P:Program}{w:World}{name:String}{g:Nat}{t e:TypeId}{n:Nat}{k:IntKind}(l:List Int)(hg:P.globalNamed name=some g)(ht:(P.globals[g]?).map (·.type)=some t)
  (hu:P.underlying t=some (.array n e)) (he:P.underlying e=some (.int k)) (hc:P.cellsOf e=1) (hn:n=l.length) (hct:P.cellsOf t=n) {r:List (String×DataW Unit)}
  (h:laidMet P ((name,.agg (l.map fun v => .lit (.int k v)))::r) w):∃t fz,w.heap[g]?=some (.cells (l.map (Value.int k)).toArray t fz):=by
 obtain⟨ps,⟨g0,t0,cs0,f0,p0,q0,hg0,ht0,hv0,hd0,_,_⟩,_,_⟩:=h
 obtain rfl:=Option.some.inj (hg.symm.trans hg0)
 obtain rfl:=Option.some.inj (ht.symm.trans ht0)
 have hcs:=ints_of_trod hu he hc hn hct hd0
 simp only[World.var?,hg,Option.bind_some]at hv0
 split at hv0
 ·rename_i c t' fz hb
  simp only[Option.some.injEq]at hv0;subst hv0
  exact⟨t',fz,by rw[hb,←hcs]⟩
 ·cases hv0
end Go.Proofs.YtblbaohcelldpaaGreatDoor.Ob
