/- . -/
import Derived.Test.YtblbaohcelldpaaGreatDoorS5
set_option linter.all false
namespace Go.Tlv
open Go Go.Abs
theorem NB{n:Int}:okI n=true↔gdI 2147483647 n:=by unfold okI gdI;simp
theorem sI{α:Type}{l:List α}{p:α->Bool}:(!l.any p)=true↔∀y∈l,¬p y=true:=by
 rw[Bool.not_eq_true',List.any_eq_false]
theorem iI{n m:Nat}:decide ((n:Int)<=(m:Int))=true↔n<=m:=by simp
theorem AH0{y:Arm}:¬MX y=true↔gdI 2147483647 y.nx:=by unfold MX;rw[Bool.not_eq_true',←NB];simp
theorem zT{y:DN}:¬FH y=true↔gdI 2147483647 y.b:=by unfold FH;rw[Bool.not_eq_true',←NB];simp
theorem AB3{y:Instr}:¬GX y=true↔gdI 2147483647 y.to/\gdI 2147483647 y.n:=by unfold GX;rw[Bool.not_eq_true',←NB,←NB];simp
def AAn(y:Arm):Prop:=y.v<4294967296
def iM(y:Instr):Prop:=y.op<256/\y.ak<256/\y.an<18446744073709551616/\y.bk<256/\y.bn<18446744073709551616
def XA(y:DN):Prop:=y.w<18446744073709551616
def AIp(x:EP):Prop:=∀y∈x.arms,AAn y
def vS(x:E9):Prop:=x.base<256
def vT(x:EB):Prop:=x.kind<256
def ADN(x:C9):Prop:=(∀y∈x.args,y<18446744073709551616)/\x.cook<18446744073709551616/\x.idle<=9223372036854775807/\x.hard<=9223372036854775807
def ADM(x:ES):Prop:=∀y∈x.code,iM y
def ADO(x:EI):Prop:=x.kind<256/\∀y∈x.bks,XA y
def ADP(x:FJ):Prop:=x.rate<=9223372036854775807/\x.burst<=9223372036854775807
def AIq(_x:IJ):Prop:=True
theorem ABK{y:Arm}(h:gdI 2147483647 y.nx)(hr:AAn y):iH y:=⟨by unfold AAn at hr;unfold gdN;omega,h⟩
theorem vB{y:Instr}(h:gdI 2147483647 y.to/\gdI 2147483647 y.n)(hr:iM y):XY y:=by
 obtain⟨h1,h2,h3,h4,h5⟩:=hr
 exact⟨by unfold gdN;omega,h.1,by unfold gdN;omega,by unfold gdN;omega,by unfold gdN;omega,by unfold gdN;omega,h.2⟩
theorem mP{y:DN}(h:gdI 2147483647 y.b)(hr:XA y):UI y:=⟨by unfold XA at hr;unfold gdN;omega,h⟩
theorem WH{x:EP}:JX x=true↔(gdI 2147483647 x.id/\gdI 2147483647 x.size/\gdI 2147483647 x.lo/\gdI 2147483647 x.lw/\gdI 2147483647 x.lu/\gdI 2147483647 x.so/\gdI 2147483647 x.sw/\gdI 2147483647 x.ot)/\x.arms.length<=32/\∀y∈x.arms,gdI 2147483647 y.nx:=by
 unfold JX
 simp only[List.all_cons,List.all_nil,Bool.and_true,Bool.and_eq_true,NB,sI,AH0]
 rw[show(decide ((x.arms.length:Int)<=32)=true↔x.arms.length<=32)from iI (m:=32)]
theorem zG{x:EP}(hm:JX x=true)(hr:AIp x):PD x:=by
 obtain⟨⟨h_id,h_size,h_lo,h_lw,h_lu,h_so,h_sw,h_ot⟩,hl,ha⟩:=WH.1 hm
 exact⟨h_id,h_size,h_lo,h_lw,h_lu,h_so,h_sw,h_ot,⟨hl,fun y hy=>ABK (ha y hy) (hr y hy)⟩⟩
theorem X0{x:EP}(h:PD x):JX x=true:=WH.2 ⟨⟨h.id,h.size,h.lo,h.lw,h.lu,h.so,h.sw,h.ot⟩,h.arms.1,fun y hy=>(h.arms.2 y hy).nx⟩
theorem eX{x:EP}(h:PD x):AMN x:=⟨by unfold KQ;have:=h.arms.1;omega,trivial,by have:=h.arms.1;omega⟩
theorem vO{x:EP}(h:PD x):rdE BQ L8 (encS (GD x))=(0,x):=by rw[VY];exact bQ.rd_put h
theorem AFB{s:List UInt8}{x:EP}(h:rdE BQ L8 s=(0,x)):PD x/\encS (GD x)=s:=by rw[VY];exact bQ.rd_ok h
theorem bD{x:E9}:I5 x=true↔(gdI 2147483647 x.id/\gdI 2147483647 x.node/\gdI 2147483647 x.off/\gdI 2147483647 x.wid):=by
 unfold I5
 simp only[List.all_cons,List.all_nil,Bool.and_true,Bool.and_eq_true,NB]
theorem u6{x:E9}(hm:I5 x=true)(hr:vS x):NM x:=by
 obtain⟨h_id,h_node,h_off,h_wid⟩:=bD.1 hm
 exact⟨h_id,(by unfold vS at hr;unfold gdN;omega),h_node,h_off,h_wid⟩
theorem VE{x:E9}(h:NM x):I5 x=true:=bD.2 ⟨h.id,h.node,h.off,h.wid⟩
theorem aS{x:E9}(h:NM x):AKu x:=⟨trivial,trivial,trivial⟩
theorem mX{x:E9}(h:NM x):rdE CE JK (encS (GQ x))=(0,x):=by rw[UC];exact XD.rd_put h
theorem ACa{s:List UInt8}{x:E9}(h:rdE CE JK s=(0,x)):NM x/\encS (GQ x)=s:=by rw[UC];exact XD.rd_ok h
theorem UT{x:EB}:IG x=true↔(gdI 2147483647 x.id/\gdI 2147483647 x.cap/\gdI 2147483647 x.miss)/\x.keys.length<=4/\∀y∈x.keys,gdI 2147483647 y:=by
 unfold IG
 simp only[List.all_cons,List.all_nil,Bool.and_true,Bool.and_eq_true,NB,List.all_eq_true]
 rw[show(decide ((x.keys.length:Int)<=4)=true↔x.keys.length<=4)from iI (m:=4)]
theorem vD{x:EB}(hm:IG x=true)(hr:vT x):NQ x:=by
 obtain⟨⟨h_id,h_cap,h_miss⟩,hl,ha⟩:=UT.1 hm
 exact⟨h_id,(by unfold vT at hr;unfold gdN;omega),⟨hl,ha⟩,h_cap,h_miss⟩
theorem VH{x:EB}(h:NQ x):IG x=true:=UT.2 ⟨⟨h.id,h.cap,h.miss⟩,h.keys.1,fun y hy=>h.keys.2 y hy⟩
theorem aV{x:EB}(h:NQ x):AKA x:=⟨by unfold JF;have:=h.keys.1;omega,trivial,by have:=h.keys.1;omega⟩
theorem nC{x:EB}(h:NQ x):rdE CF JN (encS (GR x))=(0,x):=by rw[UF];exact XG.rd_put h
theorem ACd{s:List UInt8}{x:EB}(h:rdE CF JN s=(0,x)):NQ x/\encS (GR x)=s:=by rw[UF];exact XG.rd_ok h
theorem UQ{x:C9}:IB x=true↔(gdI 2147483647 x.tab/\gdI 2147483647 x.len/\gdI 2147483647 x.prio/\gdI 2147483647 x.blk)/\0<=x.idle/\0<=x.hard/\x.key.data.toList.length<=32/\x.oth.data.toList.length<=32/\x.args.length<=4:=by
 unfold IB
 simp only[List.all_cons,List.all_nil,Bool.and_true,Bool.and_eq_true,NB,decide_eq_true_eq]
 constructor
 ·rintro ⟨h,a,b,c,d,e⟩
  exact⟨h,a,b,by omega,by omega,by omega⟩
 ·rintro ⟨h,a,b,c,d,e⟩
  exact⟨h,a,b,by omega,by omega,by omega⟩
theorem uZ{x:C9}(hm:IB x=true)(hr:ADN x):NL x:=by
 obtain⟨⟨h_tab,h_len,h_prio,h_blk⟩,hi,hh,hk,ho,hl⟩:=UQ.1 hm
 exact⟨h_tab,hk,ho,h_len,h_prio,h_blk,⟨hl,fun y hy=>(by have:=hr.1 y hy;unfold XZ gdN;omega)⟩,⟨hi,hr.2.2.1⟩,⟨hh,hr.2.2.2⟩,(by have:=hr.2.1;unfold gdN;omega),trivial⟩
theorem VD{x:C9}(h:NL x):IB x=true:=UQ.2 ⟨⟨h.tab,h.len,h.prio,h.blk⟩,h.idle.1,h.hard.1,h.key,h.oth,h.args.1⟩
theorem aR{x:C9}(h:NL x):AKt x:=⟨by unfold JD;have:=h.args.1;omega,⟨fun y hy=>(by have:=h.args.2 y hy;unfold XZ gdN at this;unfold L6;omega),(by have:=h.cook;unfold gdN at this;omega)⟩,by have:=h.args.1;omega⟩
theorem mW{x:C9}(h:NL x):rdE BA JJ (encS (DL x))=(0,x):=by rw[UB];exact XC.rd_put h
theorem AB9{s:List UInt8}{x:C9}(h:rdE BA JJ s=(0,x)):NL x/\encS (DL x)=s:=by rw[UB];exact XC.rd_ok h
theorem UO{x:ES}:H9 x=true↔(gdI 2147483647 x.id)/\x.code.length<=32/\∀y∈x.code,gdI 2147483647 y.to/\gdI 2147483647 y.n:=by
 unfold H9
 simp only[List.all_cons,List.all_nil,Bool.and_true,Bool.and_eq_true,NB,sI,AB3]
 rw[show(decide ((x.code.length:Int)<=32)=true↔x.code.length<=32)from iI (m:=32)]
theorem uY{x:ES}(hm:H9 x=true)(hr:ADM x):NK x:=by
 obtain⟨h_id,hl,ha⟩:=UO.1 hm
 exact⟨h_id,⟨hl,fun y hy=>vB (ha y hy) (hr y hy)⟩⟩
theorem VC{x:ES}(h:NK x):H9 x=true:=UO.2 ⟨h.id,h.code.1,fun y hy=>⟨(h.code.2 y hy).to,(h.code.2 y hy).n⟩⟩
theorem aQ{x:ES}(h:NK x):AKs x:=⟨by unfold JC;have:=h.code.1;omega,fun y hy=>(by have h1:=(h.code.2 y hy).an;have h2:=(h.code.2 y hy).bn;unfold gdN at h1 h2;exact⟨by omega,by omega⟩),by have:=h.code.1;omega⟩
theorem mV{x:ES}(h:NK x):rdE stepBlock JI (encS (I9 x))=(0,x):=by rw[UA];exact XB.rd_put h
theorem AB8{s:List UInt8}{x:ES}(h:rdE stepBlock JI s=(0,x)):NK x/\encS (I9 x)=s:=by rw[UA];exact XB.rd_ok h
theorem UR{x:EI}:IC x=true↔(gdI 2147483647 x.id/\gdI 2147483647 x.fld)/\x.bks.length<=16/\∀y∈x.bks,gdI 2147483647 y.b:=by
 unfold IC
 simp only[List.all_cons,List.all_nil,Bool.and_true,Bool.and_eq_true,NB,sI,zT]
 rw[show(decide ((x.bks.length:Int)<=16)=true↔x.bks.length<=16)from iI (m:=16)]
theorem u7{x:EI}(hm:IC x=true)(hr:ADO x):NN x:=by
 obtain⟨⟨h_id,h_fld⟩,hl,ha⟩:=UR.1 hm
 exact⟨h_id,(by have:=hr.1;unfold gdN;omega),h_fld,⟨hl,fun y hy=>mP (ha y hy) (hr.2 y hy)⟩⟩
theorem VF{x:EI}(h:NN x):IC x=true:=UR.2 ⟨⟨h.id,h.fld⟩,h.bks.1,fun y hy=>(h.bks.2 y hy).b⟩
theorem aT{x:EI}(h:NN x):AKv x:=⟨by unfold JE;have:=h.bks.1;omega,fun y hy=>(by have h1:=(h.bks.2 y hy).w;unfold gdN at h1;unfold I7;omega),by have:=h.bks.1;omega⟩
theorem mY{x:EI}(h:NN x):rdE CO JL (encS (G9 x))=(0,x):=by rw[UD];exact XE.rd_put h
theorem ACb{s:List UInt8}{x:EI}(h:rdE CO JL s=(0,x)):NN x/\encS (G9 x)=s:=by rw[UD];exact XE.rd_ok h
theorem bE{x:FJ}:I6 x=true↔(gdI 2147483647 x.id)/\0<=x.rate/\0<=x.burst:=by
 unfold I6
 simp only[List.all_cons,List.all_nil,Bool.and_true,Bool.and_eq_true,NB,decide_eq_true_eq]
theorem vC{x:FJ}(hm:I6 x=true)(hr:ADP x):NP x:=by
 obtain⟨h_id,hra,hbu⟩:=bE.1 hm
 exact⟨h_id,⟨hra,hr.1⟩,⟨hbu,hr.2⟩⟩
theorem VG{x:FJ}(h:NP x):I6 x=true:=bE.2 ⟨h.id,h.rate.1,h.burst.1⟩
theorem aU{x:FJ}(h:NP x):AKz x:=⟨trivial,trivial,trivial⟩
theorem mZ{x:FJ}(h:NP x):rdE DF JM (encS (IK x))=(0,x):=by rw[UE];exact XF.rd_put h
theorem ACc{s:List UInt8}{x:FJ}(h:rdE DF JM s=(0,x)):NP x/\encS (IK x)=s:=by rw[UE];exact XF.rd_ok h
theorem fB{x:IJ}:J9 x=true↔(gdI 2147483647 x.id/\gdI 2147483647 x.size):=by
 unfold J9
 simp only[List.all_cons,List.all_nil,Bool.and_true,Bool.and_eq_true,NB]
theorem zH{x:IJ}(hm:J9 x=true)(hr:AIq x):PE x:=by
 obtain⟨h_id,h_size⟩:=fB.1 hm
 exact⟨h_id,h_size⟩
theorem X3{x:IJ}(h:PE x):J9 x=true:=fB.2 ⟨h.id,h.size⟩
theorem eY{x:IJ}(h:PE x):AMO x:=⟨trivial,trivial,trivial⟩
theorem vP{x:IJ}(h:PE x):rdE ED L9 (encS (KF x))=(0,x):=by rw[VZ];exact bR.rd_put h
theorem AFC{s:List UInt8}{x:IJ}(h:rdE ED L9 s=(0,x)):PE x/\encS (KF x)=s:=by rw[VZ];exact bR.rd_ok h
def PZ:A9:=⟨0,0,0,0,0,0,0,0,0,bytesOf [],[],L8,JK,JN,JJ,JI,JL,JM,L9⟩
def APW(x:A9):Prop:=AIp x.n/\vS x.f/\vT x.t/\ADN x.e/\ADM x.b/\ADO x.g/\ADP x.m/\AIq x.r
end Go.Tlv
