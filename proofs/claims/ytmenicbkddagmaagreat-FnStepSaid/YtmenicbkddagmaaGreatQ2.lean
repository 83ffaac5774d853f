/-
  The functions that a law reaches, each as a pure function, with the proof that the program computes it, and the step from a pure law to the given statement. Conditions: none.
-/
import Derived.Test.YtmenicbkddagmaaGreatSk
import Derived.Test.YtmenicbkddagmaaGreatRows
set_option linter.unusedVariables false
set_option linter.unusedSimpArgs false
set_option linter.defProp false
set_option maxRecDepth 100000
set_option maxHeartbeats 4000000
section
open Option renaming bind->Bb
open Decidable renaming decide->Dc
open Int renaming tmod->An,tdiv->Ba
noncomputable section
open Go.Proofs.Tryz renaming prog->Pg
open Go.IntKind renaming i64->I6
namespace Go.Proofs.YtmenicbkddagmaaGreat
open Go Sl
variable {U0:Value} {U1:Nat} {n most counter:Int} {secret code:List UInt8}
structure Am where
 b:List UInt8
 i:Int
 h:Int
 deriving DecidableEq
variable {c:Am}
instance:Enc Am:=⟨3,λx=>[lc x.b,.int .i64 x.i,.int .i64 x.h],λ_=>rfl,by decide⟩
instance:Dec Am where
 sh:=[.sl 1 (Dec.sh UInt8),.int .i64,.int .i64]
 ok x:=okl x.b/\okI x.i/\okI x.h
 dec cs h:=by obtain ⟨c0,r0,rfl,h0,h⟩:=h.cons_inv;obtain ⟨c1,r1,rfl,h1,h⟩:=h.cons_inv;obtain ⟨c2,r2,rfl,h2,h⟩:=h.cons_inv;obtain rfl:=h.nil_inv;obtain ⟨y0,rfl,w0⟩:=h0.sl_inv (α:=UInt8) rfl;obtain ⟨y1,rfl,w1_⟩:=h1.int_inv;have w1:=zbn w1_;obtain ⟨y2,rfl,w2_⟩:=h2.int_inv;have w2:=zbn w2_;exact ⟨(⟨y0,y1,y2⟩:Am),rfl,w0,w1,w2⟩
structure Op where
 j:List UInt8
 P:Bool
 M:List UInt8
 deriving DecidableEq
instance:Enc Op:=⟨3,λx=>[.str x.j,.bool x.P,.str x.M],λ_=>rfl,by decide⟩
instance:Dec Op where
 sh:=[.str,.bool,.str]
 ok x:=x.j.length<=9223372036854775807/\True/\x.M.length<=9223372036854775807
 dec cs h:=by obtain ⟨c0,r0,rfl,h0,h⟩:=h.cons_inv;obtain ⟨c1,r1,rfl,h1,h⟩:=h.cons_inv;obtain ⟨c2,r2,rfl,h2,h⟩:=h.cons_inv;obtain rfl:=h.nil_inv;obtain ⟨y0,rfl,w0⟩:=h0.str_inv;obtain ⟨y1,rfl⟩:=h1.bool_inv;have w1:=True.intro;obtain ⟨y2,rfl,w2⟩:=h2.str_inv;exact ⟨(⟨y0,y1,y2⟩:Op),rfl,w0,w1,w2⟩
instance:Flat Op:={vals:=λx=>[strV x.j,.bool x.P,strV x.M],flat:=λ_=>rfl}
structure Ao where
 E:Int
 Q:List UInt8
 s:Int
 N:Int
 j:List UInt8
 W:List UInt8
 R:List Op
 deriving DecidableEq
instance:Enc Ao:=⟨7,λx=>[.int .i64 x.E,.str x.Q,.int .i64 x.s,.int .i64 x.N,.str x.j,.str x.W,lc x.R],λ_=>rfl,by decide⟩
instance:Dec Ao where
 sh:=[.int .i64,.str,.int .i64,.int .i64,.str,.str,.sl 3 (Dec.sh Op)]
 ok x:=okI x.E/\x.Q.length<=9223372036854775807/\okI x.s/\okI x.N/\x.j.length<=9223372036854775807/\x.W.length<=9223372036854775807/\okl x.R
 dec cs h:=by obtain ⟨c0,r0,rfl,h0,h⟩:=h.cons_inv;obtain ⟨c1,r1,rfl,h1,h⟩:=h.cons_inv;obtain ⟨c2,r2,rfl,h2,h⟩:=h.cons_inv;obtain ⟨c3,r3,rfl,h3,h⟩:=h.cons_inv;obtain ⟨c4,r4,rfl,h4,h⟩:=h.cons_inv;obtain ⟨c5,r5,rfl,h5,h⟩:=h.cons_inv;obtain ⟨c6,r6,rfl,h6,h⟩:=h.cons_inv;obtain rfl:=h.nil_inv;obtain ⟨y0,rfl,w0_⟩:=h0.int_inv;have w0:=zbn w0_;obtain ⟨y1,rfl,w1⟩:=h1.str_inv;obtain ⟨y2,rfl,w2_⟩:=h2.int_inv;have w2:=zbn w2_;obtain ⟨y3,rfl,w3_⟩:=h3.int_inv;have w3:=zbn w3_;obtain ⟨y4,rfl,w4⟩:=h4.str_inv;obtain ⟨y5,rfl,w5⟩:=h5.str_inv;obtain ⟨y6,rfl,w6⟩:=h6.sl_inv (α:=Op) rfl;exact ⟨(⟨y0,y1,y2,y3,y4,y5,y6⟩:Ao),rfl,w0,w1,w2,w3,w4,w5,w6⟩
structure A5 where
 s:Int
 j:List UInt8
 deriving DecidableEq
instance:Enc A5:=⟨2,λx=>[.int .i64 x.s,.str x.j],λ_=>rfl,by decide⟩
instance:Dec A5 where
 sh:=[.int .i64,.str]
 ok x:=okI x.s/\x.j.length<=9223372036854775807
 dec cs h:=by obtain ⟨c0,r0,rfl,h0,h⟩:=h.cons_inv;obtain ⟨c1,r1,rfl,h1,h⟩:=h.cons_inv;obtain rfl:=h.nil_inv;obtain ⟨y0,rfl,w0_⟩:=h0.int_inv;have w0:=zbn w0_;obtain ⟨y1,rfl,w1⟩:=h1.str_inv;exact ⟨(⟨y0,y1⟩:A5),rfl,w0,w1⟩
instance:Flat A5:={vals:=λx=>[.int .i64 x.s,strV x.j],flat:=λ_=>rfl}
structure At where
 K:List UInt8
 D:List A5
 H:Int
 deriving DecidableEq
instance:Enc At:=⟨3,λx=>[.str x.K,lc x.D,.int .i64 x.H],λ_=>rfl,by decide⟩
instance:Dec At where
 sh:=[.str,.sl 2 (Dec.sh A5),.int .i64]
 ok x:=x.K.length<=9223372036854775807/\okl x.D/\okI x.H
 dec cs h:=by obtain ⟨c0,r0,rfl,h0,h⟩:=h.cons_inv;obtain ⟨c1,r1,rfl,h1,h⟩:=h.cons_inv;obtain ⟨c2,r2,rfl,h2,h⟩:=h.cons_inv;obtain rfl:=h.nil_inv;obtain ⟨y0,rfl,w0⟩:=h0.str_inv;obtain ⟨y1,rfl,w1⟩:=h1.sl_inv (α:=A5) rfl;obtain ⟨y2,rfl,w2_⟩:=h2.int_inv;have w2:=zbn w2_;exact ⟨(⟨y0,y1,y2⟩:At),rfl,w0,w1,w2⟩
structure As where
 s:Int
 S:Int
 deriving DecidableEq
instance:Enc As:=⟨2,λx=>[.int .i64 x.s,.int .i64 x.S],λ_=>rfl,by decide⟩
instance:Dec As where
 sh:=[.int .i64,.int .i64]
 ok x:=okI x.s/\okI x.S
 dec cs h:=by obtain ⟨c0,r0,rfl,h0,h⟩:=h.cons_inv;obtain ⟨c1,r1,rfl,h1,h⟩:=h.cons_inv;obtain rfl:=h.nil_inv;obtain ⟨y0,rfl,w0_⟩:=h0.int_inv;have w0:=zbn w0_;obtain ⟨y1,rfl,w1_⟩:=h1.int_inv;have w1:=zbn w1_;exact ⟨(⟨y0,y1⟩:As),rfl,w0,w1⟩
instance:Flat As:={vals:=λx=>[.int .i64 x.s,.int .i64 x.S],flat:=λ_=>rfl}
structure Ad where
 I:Int
 r:_root_.List As
 deriving DecidableEq
instance:Enc Ad:=⟨2,λx=>[.int .i64 x.I,lc x.r],λ_=>rfl,by decide⟩
instance:Dec Ad where
 sh:=[.int .i64,.sl 2 (Dec.sh As)]
 ok x:=okI x.I/\okl x.r
 dec cs h:=by obtain ⟨c0,r0,rfl,h0,h⟩:=h.cons_inv;obtain ⟨c1,r1,rfl,h1,h⟩:=h.cons_inv;obtain rfl:=h.nil_inv;obtain ⟨y0,rfl,w0_⟩:=h0.int_inv;have w0:=zbn w0_;obtain ⟨y1,rfl,w1⟩:=h1.sl_inv (α:=As) rfl;exact ⟨(⟨y0,y1⟩:Ad),rfl,w0,w1⟩
structure Ac where
 j:List UInt8
 c:Int
 P:Bool
 M:List UInt8
 deriving DecidableEq
instance:Enc Ac:=⟨4,λx=>[.str x.j,.int .i64 x.c,.bool x.P,.str x.M],λ_=>rfl,by decide⟩
instance:Dec Ac where
 sh:=[.str,.int .i64,.bool,.str]
 ok x:=x.j.length<=9223372036854775807/\okI x.c/\True/\x.M.length<=9223372036854775807
 dec cs h:=by obtain ⟨c0,r0,rfl,h0,h⟩:=h.cons_inv;obtain ⟨c1,r1,rfl,h1,h⟩:=h.cons_inv;obtain ⟨c2,r2,rfl,h2,h⟩:=h.cons_inv;obtain ⟨c3,r3,rfl,h3,h⟩:=h.cons_inv;obtain rfl:=h.nil_inv;obtain ⟨y0,rfl,w0⟩:=h0.str_inv;obtain ⟨y1,rfl,w1_⟩:=h1.int_inv;have w1:=zbn w1_;obtain ⟨y2,rfl⟩:=h2.bool_inv;have w2:=True.intro;obtain ⟨y3,rfl,w3⟩:=h3.str_inv;exact ⟨(⟨y0,y1,y2,y3⟩:Ac),rfl,w0,w1,w2,w3⟩
instance:Flat Ac:={vals:=λx=>[strV x.j,.int .i64 x.c,.bool x.P,strV x.M],flat:=λ_=>rfl}
instance:Enc (List Ac):=⟨1,λl=>[lc l],λ_=>rfl,Nat.one_pos⟩
instance:Dec (List Ac) where
 sh:=[.sl 4 (Dec.sh Ac)]
 ok l:=okl l
 dec cs h:=by obtain ⟨c0,r0,rfl,h0,h⟩:=h.cons_inv;obtain rfl:=h.nil_inv;obtain ⟨y0,rfl,w0⟩:=h0.sl_inv (α:=Ac) rfl;exact ⟨y0,rfl,w0⟩
structure Aa where
 x:List Ac
 t:List (List Ac)
 c:Int
 B:List Int
 deriving DecidableEq
instance:Enc Aa:=⟨4,λx=>[lc x.x,lc x.t,.int .i64 x.c,lc x.B],λ_=>rfl,by decide⟩
instance:Dec Aa where
 sh:=[.sl 4 (Dec.sh Ac),.sl 1 (Dec.sh (List Ac)),.int .i64,.sl 1 (Dec.sh Int)]
 ok x:=okl x.x/\okl x.t/\okI x.c/\okl x.B
 dec cs h:=by obtain ⟨c0,r0,rfl,h0,h⟩:=h.cons_inv;obtain ⟨c1,r1,rfl,h1,h⟩:=h.cons_inv;obtain ⟨c2,r2,rfl,h2,h⟩:=h.cons_inv;obtain ⟨c3,r3,rfl,h3,h⟩:=h.cons_inv;obtain rfl:=h.nil_inv;obtain ⟨y0,rfl,w0⟩:=h0.sl_inv (α:=Ac) rfl;obtain ⟨y1,rfl,w1⟩:=h1.sl_inv (α:=List Ac) rfl;obtain ⟨y2,rfl,w2_⟩:=h2.int_inv;have w2:=zbn w2_;obtain ⟨y3,rfl,w3⟩:=h3.sl_inv (α:=Int) rfl;exact ⟨(⟨y0,y1,y2,y3⟩:Aa),rfl,w0,w1,w2,w3⟩
structure Af where
 q:Int
 J:Int
 G:Int
 g:Aa
 deriving DecidableEq
instance:Enc Af:=⟨7,λx=>[.int .i64 x.q,.int .i64 x.J,.int .i64 x.G,lc x.g.x,lc x.g.t,.int .i64 x.g.c,lc x.g.B],λ_=>rfl,by decide⟩
instance:Dec Af where
 sh:=[.int .i64,.int .i64,.int .i64,.sl 4 (Dec.sh Ac),.sl 1 (Dec.sh (List Ac)),.int .i64,.sl 1 (Dec.sh Int)]
 ok x:=okI x.q/\okI x.J/\okI x.G/\okl x.g.x/\okl x.g.t/\okI x.g.c/\okl x.g.B
 dec cs h:=by obtain ⟨c0,r0,rfl,h0,h⟩:=h.cons_inv;obtain ⟨c1,r1,rfl,h1,h⟩:=h.cons_inv;obtain ⟨c2,r2,rfl,h2,h⟩:=h.cons_inv;obtain ⟨c3,r3,rfl,h3,h⟩:=h.cons_inv;obtain ⟨c4,r4,rfl,h4,h⟩:=h.cons_inv;obtain ⟨c5,r5,rfl,h5,h⟩:=h.cons_inv;obtain ⟨c6,r6,rfl,h6,h⟩:=h.cons_inv;obtain rfl:=h.nil_inv;obtain ⟨y0,rfl,w0_⟩:=h0.int_inv;have w0:=zbn w0_;obtain ⟨y1,rfl,w1_⟩:=h1.int_inv;have w1:=zbn w1_;obtain ⟨y2,rfl,w2_⟩:=h2.int_inv;have w2:=zbn w2_;obtain ⟨y3,rfl,w3⟩:=h3.sl_inv (α:=Ac) rfl;obtain ⟨y4,rfl,w4⟩:=h4.sl_inv (α:=List Ac) rfl;obtain ⟨y5,rfl,w5_⟩:=h5.int_inv;have w5:=zbn w5_;obtain ⟨y6,rfl,w6⟩:=h6.sl_inv (α:=Int) rfl;exact ⟨(⟨y0,y1,y2,⟨y3,y4,y5,y6⟩⟩:Af),rfl,w0,w1,w2,w3,w4,w5,w6⟩
structure Ah where
 s:Int
 A:Int
 c:Int
 O:List UInt8
 U:Bool
 deriving DecidableEq
instance:Enc Ah:=⟨5,λx=>[.int .i64 x.s,.int .i64 x.A,.int .i64 x.c,.str x.O,.bool x.U],λ_=>rfl,by decide⟩
instance:Dec Ah where
 sh:=[.int .i64,.int .i64,.int .i64,.str,.bool]
 ok x:=okI x.s/\okI x.A/\okI x.c/\x.O.length<=9223372036854775807/\True
 dec cs h:=by obtain ⟨c0,r0,rfl,h0,h⟩:=h.cons_inv;obtain ⟨c1,r1,rfl,h1,h⟩:=h.cons_inv;obtain ⟨c2,r2,rfl,h2,h⟩:=h.cons_inv;obtain ⟨c3,r3,rfl,h3,h⟩:=h.cons_inv;obtain ⟨c4,r4,rfl,h4,h⟩:=h.cons_inv;obtain rfl:=h.nil_inv;obtain ⟨y0,rfl,w0_⟩:=h0.int_inv;have w0:=zbn w0_;obtain ⟨y1,rfl,w1_⟩:=h1.int_inv;have w1:=zbn w1_;obtain ⟨y2,rfl,w2_⟩:=h2.int_inv;have w2:=zbn w2_;obtain ⟨y3,rfl,w3⟩:=h3.str_inv;obtain ⟨y4,rfl⟩:=h4.bool_inv;have w4:=True.intro;exact ⟨(⟨y0,y1,y2,y3,y4⟩:Ah),rfl,w0,w1,w2,w3,w4⟩
instance:Flat Ah:={vals:=λx=>[.int .i64 x.s,.int .i64 x.A,.int .i64 x.c,strV x.O,.bool x.U],flat:=λ_=>rfl}
structure Ae where
 F:List UInt8
 m:At
 C:Ad
 a:List Af
 u:List Ah
 L:List Ah
 A:Int
 deriving DecidableEq
instance:Enc Ae:=⟨10,λx=>[.str x.F,.str x.m.K,lc x.m.D,.int .i64 x.m.H,.int .i64 x.C.I,lc x.C.r,lc x.a,lc x.u,lc x.L,.int .i64 x.A],λ_=>rfl,by decide⟩
instance:Dec Ae where
 sh:=[.str,.str,.sl 2 (Dec.sh A5),.int .i64,.int .i64,.sl 2 (Dec.sh As),.sl 7 (Dec.sh Af),.sl 5 (Dec.sh Ah),.sl 5 (Dec.sh Ah),.int .i64]
 ok x:=x.F.length<=9223372036854775807/\x.m.K.length<=9223372036854775807/\okl x.m.D/\okI x.m.H/\okI x.C.I/\okl x.C.r/\okl x.a/\okl x.u/\okl x.L/\okI x.A
 dec cs h:=by obtain ⟨c0,r0,rfl,h0,h⟩:=h.cons_inv;obtain ⟨c1,r1,rfl,h1,h⟩:=h.cons_inv;obtain ⟨c2,r2,rfl,h2,h⟩:=h.cons_inv;obtain ⟨c3,r3,rfl,h3,h⟩:=h.cons_inv;obtain ⟨c4,r4,rfl,h4,h⟩:=h.cons_inv;obtain ⟨c5,r5,rfl,h5,h⟩:=h.cons_inv;obtain ⟨c6,r6,rfl,h6,h⟩:=h.cons_inv;obtain ⟨c7,r7,rfl,h7,h⟩:=h.cons_inv;obtain ⟨c8,r8,rfl,h8,h⟩:=h.cons_inv;obtain ⟨c9,r9,rfl,h9,h⟩:=h.cons_inv;obtain rfl:=h.nil_inv;obtain ⟨y0,rfl,w0⟩:=h0.str_inv;obtain ⟨y1,rfl,w1⟩:=h1.str_inv;obtain ⟨y2,rfl,w2⟩:=h2.sl_inv (α:=A5) rfl;obtain ⟨y3,rfl,w3_⟩:=h3.int_inv;have w3:=zbn w3_;obtain ⟨y4,rfl,w4_⟩:=h4.int_inv;have w4:=zbn w4_;obtain ⟨y5,rfl,w5⟩:=h5.sl_inv (α:=As) rfl;obtain ⟨y6,rfl,w6⟩:=h6.sl_inv (α:=Af) rfl;obtain ⟨y7,rfl,w7⟩:=h7.sl_inv (α:=Ah) rfl;obtain ⟨y8,rfl,w8⟩:=h8.sl_inv (α:=Ah) rfl;obtain ⟨y9,rfl,w9_⟩:=h9.int_inv;have w9:=zbn w9_;exact ⟨(⟨y0,⟨y1,y2,y3⟩,⟨y4,y5⟩,y6,y7,y8,y9⟩:Ae),rfl,w0,w1,w2,w3,w4,w5,w6,w7,w8,w9⟩
structure KV where
 j:List UInt8
 M:List UInt8
 deriving DecidableEq
instance:Enc KV:=⟨2,λx=>[.str x.j,.str x.M],λ_=>rfl,by decide⟩
instance:Dec KV where
 sh:=[.str,.str]
 ok x:=x.j.length<=9223372036854775807/\x.M.length<=9223372036854775807
 dec cs h:=by obtain ⟨c0,r0,rfl,h0,h⟩:=h.cons_inv;obtain ⟨c1,r1,rfl,h1,h⟩:=h.cons_inv;obtain rfl:=h.nil_inv;obtain ⟨y0,rfl,w0⟩:=h0.str_inv;obtain ⟨y1,rfl,w1⟩:=h1.str_inv;exact ⟨(⟨y0,y1⟩:KV),rfl,w0,w1⟩
instance:Flat KV:={vals:=λx=>[strV x.j,strV x.M],flat:=λ_=>rfl}
structure Ar where
 T:Int
 N:Int
 O:_root_.List UInt8
 r:_root_.List KV
 deriving DecidableEq
instance:Enc Ar:=⟨4,λx=>[.int .i64 x.T,.int .i64 x.N,.str x.O,lc x.r],λ_=>rfl,by decide⟩
instance:Dec Ar where
 sh:=[.int .i64,.int .i64,.str,.sl 2 (Dec.sh KV)]
 ok x:=okI x.T/\okI x.N/\x.O.length<=9223372036854775807/\okl x.r
 dec cs h:=by obtain ⟨c0,r0,rfl,h0,h⟩:=h.cons_inv;obtain ⟨c1,r1,rfl,h1,h⟩:=h.cons_inv;obtain ⟨c2,r2,rfl,h2,h⟩:=h.cons_inv;obtain ⟨c3,r3,rfl,h3,h⟩:=h.cons_inv;obtain rfl:=h.nil_inv;obtain ⟨y0,rfl,w0_⟩:=h0.int_inv;have w0:=zbn w0_;obtain ⟨y1,rfl,w1_⟩:=h1.int_inv;have w1:=zbn w1_;obtain ⟨y2,rfl,w2⟩:=h2.str_inv;obtain ⟨y3,rfl,w3⟩:=h3.sl_inv (α:=KV) rfl;exact ⟨(⟨y0,y1,y2,y3⟩:Ar),rfl,w0,w1,w2,w3⟩
structure A6 where
 text:List UInt8
 V:Int
 Y:Bool
 deriving DecidableEq
instance:Enc A6:=⟨3,λx=>[.str x.text,.int .i64 x.V,.bool x.Y],λ_=>rfl,by decide⟩
instance:Dec A6 where
 sh:=[.str,.int .i64,.bool]
 ok x:=x.text.length<=9223372036854775807/\okI x.V/\True
 dec cs h:=by obtain ⟨c0,r0,rfl,h0,h⟩:=h.cons_inv;obtain ⟨c1,r1,rfl,h1,h⟩:=h.cons_inv;obtain ⟨c2,r2,rfl,h2,h⟩:=h.cons_inv;obtain rfl:=h.nil_inv;obtain ⟨y0,rfl,w0⟩:=h0.str_inv;obtain ⟨y1,rfl,w1_⟩:=h1.int_inv;have w1:=zbn w1_;obtain ⟨y2,rfl⟩:=h2.bool_inv;have w2:=True.intro;exact ⟨(⟨y0,y1,y2⟩:A6),rfl,w0,w1,w2⟩
instance:Flat A6:={vals:=λx=>[strV x.text,.int .i64 x.V,.bool x.Y],flat:=λ_=>rfl}
def hMix:Pg.follows .mixedOrders=true:=by kernel_rfl
instance:Tab Pg:=⟨.n 4098 2 (.n 2306 2 (.n 2114 4 (.n 1856 0 (.n 1665 1 (.n 1664 0 .e .e) (.n 1666 2 .e .e)) (.n 2112 0 (.n 1857 1 .e .e) (.n 2113 1 .e .e))) (.n 2118 9 (.n 2116 7 (.n 2115 6 .e .e) (.n 2117 8 .e .e)) (.n 2305 1 (.n 2304 0 .e .e) .e))) (.n 2626 2 (.n 2310 6 (.n 2308 4 (.n 2307 3 .e .e) (.n 2309 5 .e .e)) (.n 2625 1 (.n 2624 0 .e .e) .e)) (.n 3971 3 (.n 3969 1 (.n 3968 0 .e .e) (.n 3970 2 .e .e)) (.n 4097 1 (.n 4096 0 .e .e) .e)))) (.n 7488 0 (.n 4929 1 (.n 4608 0 (.n 4288 0 (.n 4099 3 .e .e) (.n 4289 1 .e .e)) (.n 4928 0 (.n 4609 1 .e .e) .e)) (.n 5248 0 (.n 4931 3 (.n 4930 2 .e .e) (.n 4932 4 .e .e)) (.n 5250 2 (.n 5249 1 .e .e) .e))) (.n 8256 0 (.n 7616 0 (.n 7490 2 (.n 7489 1 .e .e) (.n 7491 3 .e .e)) (.n 7618 2 (.n 7617 1 .e .e) .e)) (.n 12033 1 (.n 8258 2 (.n 8257 1 .e .e) (.n 12032 0 .e .e)) (.n 16705 1 (.n 16704 0 .e .e) .e)))),.n 58 2 (.n 27 2 (.n 9 2 (.n 4 2 (.n 3 2 .e .e) (.n 5 2 .e .e)) (.n 24 2 (.n 22 2 .e .e) (.n 26 7 .e .e))) (.n 33 21 (.n 30 2 (.n 29 5 .e .e) (.n 31 2 .e .e)) (.n 36 15 (.n 34 2 .e .e) (.n 41 9 .e .e)))) (.n 117 9 (.n 64 15 (.n 60 2 (.n 59 2 .e .e) (.n 62 9 .e .e)) (.n 72 5 (.n 67 5 .e .e) (.n 77 11 .e .e))) (.n 206 2 (.n 129 7 (.n 119 7 .e .e) (.n 188 5 .e .e)) (.n 259 2 (.n 207 33 .e .e) .e))),.n 39 2 (.n 30 7 (.n 24 2 (.n 22 1 .e .e) (.n 27 2 .e .e)) (.n 34 3 (.n 31 5 .e .e) .e)) (.n 83 4 (.n 59 1 (.n 58 4 .e .e) (.n 60 1 .e .e)) (.n 93 1 (.n 87 7 .e .e) .e)),by kernel_rfl,by kernel_rfl,by kernel_rfl⟩
def ke22:elemB Pg 22=some (5,1,1):=by kernel_rfl
def kk5:kindB Pg 5=some (false,1):=by kernel_rfl
def ki5:intB Pg 5=some .u8:=by kernel_rfl
def ki3:intB Pg 3=some .i64:=by kernel_rfl
def kz82:zeroB Pg 82=some (.agg #[.slice none 0 0,.int .i64 (0:Int),.int .i64 (0:Int)]):=by kernel_rfl
def kp82:placesB Pg 82=some [(0,1),(1,1),(2,1)]:=by kernel_rfl
def kz5:zeroB Pg 5=some (.int .u8 (0:Int)):=by kernel_rfl
def ks9:isStrB Pg 9=true:=by kernel_rfl
def kk3:kindB Pg 3=some (false,1):=by kernel_rfl
def kk22:kindB Pg 22=some (false,1):=by kernel_rfl
def ke60:elemB Pg 60=some (3,1,8):=by kernel_rfl
def kz3:zeroB Pg 3=some (.int .i64 (0:Int)):=by kernel_rfl
def ke93:elemB Pg 93=some (9,1,16):=by kernel_rfl
def kk9:kindB Pg 9=some (false,1):=by kernel_rfl
def kz9:zeroB Pg 9=some (strV ([])):=by kernel_rfl
def kz129:zeroB Pg 129=some (.agg #[strV ([]),.bool false,strV ([])]):=by kernel_rfl
def ke34:elemB Pg 34=some (129,3,40):=by kernel_rfl
def kp129:placesB Pg 129=some [(0,1),(1,1),(2,1)]:=by kernel_rfl
def kk129:kindB Pg 129=some (true,3):=by kernel_rfl
def kk4:kindB Pg 4=some (false,1):=by kernel_rfl
def kz36:zeroB Pg 36=some (.agg #[.int .i64 (0:Int),strV ([]),.int .i64 (0:Int),.int .i64 (0:Int),strV ([]),strV ([]),.slice none 0 0]):=by kernel_rfl
def kp36:placesB Pg 36=some [(0,1),(1,1),(2,1),(3,1),(4,1),(5,1),(6,1)]:=by kernel_rfl
def kk36:kindB Pg 36=some (true,7):=by kernel_rfl
def kk34:kindB Pg 34=some (false,1):=by kernel_rfl
def ke87:elemB Pg 87=some (36,7,96):=by kernel_rfl
def kz33:zeroB Pg 33=some (.agg #[strV ([]),strV ([]),.slice none 0 0,.int .i64 (0:Int),.int .i64 (0:Int),.slice none 0 0,.slice none 0 0,.slice none 0 0,.slice none 0 0,.int .i64 (0:Int)]):=by kernel_rfl
def kp33:placesB Pg 33=some [(0,1),(1,3),(4,2),(6,1),(7,1),(8,1),(9,1)]:=by kernel_rfl
def kk33:kindB Pg 33=some (true,10):=by kernel_rfl
def kz26:zeroB Pg 26=some (.agg #[strV ([]),.slice none 0 0,.int .i64 (0:Int)]):=by kernel_rfl
def kp26:placesB Pg 26=some [(0,1),(1,1),(2,1)]:=by kernel_rfl
def kz29:zeroB Pg 29=some (.agg #[.int .i64 (0:Int),.slice none 0 0]):=by kernel_rfl
def kp29:placesB Pg 29=some [(0,1),(1,1)]:=by kernel_rfl
def ke30:elemB Pg 30=some (64,7,104):=by kernel_rfl
def zhb:fieldB Pg 64 0=some 0:=by kernel_rfl
def kz41:zeroB Pg 41=some (.agg #[.int .i64 (0:Int),.int .i64 (0:Int),strV ([]),.slice none 0 0]):=by kernel_rfl
def kp41:placesB Pg 41=some [(0,1),(1,1),(2,1),(3,1)]:=by kernel_rfl
def kk41:kindB Pg 41=some (true,4):=by kernel_rfl
def kk27:kindB Pg 27=some (false,1):=by kernel_rfl
def ke27:elemB Pg 27=some (67,2,16):=by kernel_rfl
def kk67:kindB Pg 67=some (true,2):=by kernel_rfl
def kz67:zeroB Pg 67=some (.agg #[.int .i64 (0:Int),.int .i64 (0:Int)]):=by kernel_rfl
def kk29:kindB Pg 29=some (true,2):=by kernel_rfl
def kp67:placesB Pg 67=some [(0,1),(1,1)]:=by kernel_rfl
def kk24:kindB Pg 24=some (false,1):=by kernel_rfl
def ke24:elemB Pg 24=some (72,2,24):=by kernel_rfl
def kk72:kindB Pg 72=some (true,2):=by kernel_rfl
def kz72:zeroB Pg 72=some (.agg #[.int .i64 (0:Int),strV ([])]):=by kernel_rfl
def kk26:kindB Pg 26=some (true,3):=by kernel_rfl
def kp72:placesB Pg 72=some [(0,1),(1,1)]:=by kernel_rfl
def kz64:zeroB Pg 64=some (.agg #[.int .i64 (0:Int),.int .i64 (0:Int),.int .i64 (0:Int),.slice none 0 0,.slice none 0 0,.int .i64 (0:Int),.slice none 0 0]):=by kernel_rfl
def kk64:kindB Pg 64=some (true,7):=by kernel_rfl
def kk30:kindB Pg 30=some (false,1):=by kernel_rfl
def kp64:placesB Pg 64=some [(0,1),(1,1),(2,1),(3,4)]:=by kernel_rfl
def ke58:elemB Pg 58=some (117,4,48):=by kernel_rfl
def kk117:kindB Pg 117=some (true,4):=by kernel_rfl
def zmw:fieldB Pg 62 0=some 0:=by kernel_rfl
def kk58:kindB Pg 58=some (false,1):=by kernel_rfl
def zha:fieldB Pg 62 1=some 1:=by kernel_rfl
def kk59:kindB Pg 59=some (false,1):=by kernel_rfl
def ke59:elemB Pg 59=some (58,1,24):=by kernel_rfl
def zoW:fieldB Pg 62 2=some 2:=by kernel_rfl
def zie:fieldB Pg 62 3=some 3:=by kernel_rfl
def kk60:kindB Pg 60=some (false,1):=by kernel_rfl
def kz62:zeroB Pg 62=some (.agg #[.slice none 0 0,.slice none 0 0,.int .i64 (0:Int),.slice none 0 0]):=by kernel_rfl
def kz117:zeroB Pg 117=some (.agg #[strV ([]),.int .i64 (0:Int),.bool false,strV ([])]):=by kernel_rfl
def kp62:placesB Pg 62=some [(0,1),(1,1),(2,1),(3,1)]:=by kernel_rfl
def kk62:kindB Pg 62=some (true,4):=by kernel_rfl
def kz58:zeroB Pg 58=some (.slice none 0 0):=by kernel_rfl
def kp117:placesB Pg 117=some [(0,1),(1,1),(2,1),(3,1)]:=by kernel_rfl
def kz77:zeroB Pg 77=some (.agg #[.int .i64 (0:Int),.int .i64 (0:Int),.int .i64 (0:Int),strV ([]),.bool false]):=by kernel_rfl
def ke31:elemB Pg 31=some (77,5,48):=by kernel_rfl
def kk31:kindB Pg 31=some (false,1):=by kernel_rfl
def kk77:kindB Pg 77=some (true,5):=by kernel_rfl
def zbi:fieldB Pg 64 3=some 3:=by kernel_rfl
def zmx:fieldB Pg 64 2=some 2:=by kernel_rfl
def zif:fieldB Pg 64 1=some 1:=by kernel_rfl
def kz188:zeroB Pg 188=some (.agg #[strV ([]),strV ([])]):=by kernel_rfl
def ke39:elemB Pg 39=some (188,2,32):=by kernel_rfl
def kp188:placesB Pg 188=some [(0,1),(1,1)]:=by kernel_rfl
def kk188:kindB Pg 188=some (true,2):=by kernel_rfl
def kp77:placesB Pg 77=some [(0,1),(1,1),(2,1),(3,1),(4,1)]:=by kernel_rfl
def ke83:elemB Pg 83=some (41,4,56):=by kernel_rfl
def ki169:intB Pg 169=some .u64:=by kernel_rfl
def ki206:intB Pg 206=some .u32:=by kernel_rfl
def kz207:zeroB Pg 207=some (arrV (List.replicate 16 (Wrd.mk 0))):=by kernel_rfl
def ka207:arrB Pg 207=some (16,206,1):=by kernel_rfl
def kk207:kindB Pg 207=some (true,16):=by kernel_rfl
def kk206:kindB Pg 206=some (false,1):=by kernel_rfl
def kz119:zeroB Pg 119=some (.agg #[strV ([]),.int .i64 (0:Int),.bool false]):=by kernel_rfl
def kp119:placesB Pg 119=some [(0,1),(1,1),(2,1)]:=by kernel_rfl
def kk119:kindB Pg 119=some (true,3):=by kernel_rfl
def zxh:fieldTB Pg 62 1=some (1,59):=by kernel_rfl
def keq117:eqTB Pg 117=some [2,0,1,2]:=by kernel_rfl
def kz261:zeroB Pg 261=some (.agg #[.pointer none,.slice none 0 0]):=by kernel_rfl
def kk259:kindB Pg 259=some (false,1):=by kernel_rfl
def kc277:callB Pg 277=true:=by kernel_rfl
def kp259:ptrB Pg 259=some (261,2):=by kernel_rfl
def kp280:ptrB Pg 280=some (5,1):=by kernel_rfl
def ku284:unsB Pg 284=true:=by kernel_rfl
def kl261:liesAt Pg Pg.depth 261 (2 / Pg.cellsOf 261) 0 261 1=true:=by kernel_rfl
def kc256:callB Pg 256=true:=by kernel_rfl
def kc259:callB Pg 259=true:=by kernel_rfl
def keq72:eqTB Pg 72=some [0,2]:=by kernel_rfl
def keq77:eqTB Pg 77=some [0,0,0,2,1]:=by kernel_rfl
def keq67:eqTB Pg 67=some [0,0]:=by kernel_rfl
def hu22:Pg.underlying 22=some (.slice 5):=by kernel_rfl
def hs22:shB Pg 20 22=some ([.sl 1 (Dec.sh UInt8)]):=by kernel_rfl
def kb4:Pg.underlying 4=some .bool:=by kernel_rfl
def zn5 (code:List UInt8):Option Bool:=some (Dc ((code.length:Int)>1048576))
def zuq:Cn Pg 4 [U0] [] [(U0,lc code)] (zn5 code) (λr (_:Unit)=>.bool r) λ_ _=>[]:=Ch Tryz.func4 r λw S Z=>Dw Z 11 [100] r<|Wr<|Rq
def zi3 (code:List UInt8):Option Am:=bindC (loopO (λ(a:Int × Int)=>Bb (if Dc (a.2<(code.length:Int))then some (Dc (a.2<4000))else some false) (λ(b:Bool)=>if b=true then Bb (idx code a.2) λc=>some (.go (iand .i64 (I6.wrap (I6.wrap (I6.wrap (a.1*131)+(I6.wrap (c.toNat:Int)))+7)) 1073741823,I6.wrap (a.2+1)))else some (.done (.go a.1)))) (I6.wrap ((10101:Int)+(code.length:Int)),(0:Int))) (λ(d:Int)=>some (⟨code,0,d⟩:Am))
def zsI:Cn Pg 11 [U0] [] [(U0,lc code)] (zi3 code) (λ_ (X:Nat)=>pt X) λr X=>[.box X 82 [U0,iv r.i,iv r.h]]:=Ch Tryz.func11 r λw S Z=>by
 refine Dw Z 16 [100] r<|Ju [0] (λT=>[(3,iv T)]) r1 (?_) λe=>?_
 ·exact Wb<|Lu [0] (λT=>[(3,iv T.1),(4,iv T.2)]) r1 λf=>Sq<|Sq<|Jv [0,3,4] (λT=>[(15,.bool T)]) r1 (Dt Z 6 [100] r<|It (λa=>Qg 2 (zu a) r r<|Yo (Pt a r)<|Nl<|Bv) λa=>Of 2 (zE a) r r<|Yo (Pf a r)<|Nl<|Bv) λg=>Ne<|Wc r (λb=>Sn<|Dt Z 7 [] r<|Bi λj c=>Vv (Kx Z (Xc c<|Xz)) 2 [100,0,300,0,0] r<|Yo (Y.conv ki5 ki3 r)<|Qs 4 r<|Nl<|Bn<|Ne<|Rg<|Qs 3 r<|Nl<|Lq) λb=>We<|Jq
 exact Ne<|Sr<|Qs 2 r<|Yo (Bd kp82 kz82 (Pc r (Cb Z.1)<|Pc r (Cp r)<|Pz) r)<|Fo (Bx r (Ca ⟨Ob Z.1,Op',Op',⟨⟩⟩)) λd=>Qs 1 r<|Nx<|Wr<|Re d [0]
def zh9 (code:List UInt8) (most:Int):Option Int:=if Dc (I6.wrap ((2:Int)+(I6.wrap (Ba (code.length:Int) (20:Int))))>most)then some most else some (I6.wrap ((2:Int)+(I6.wrap (Ba (code.length:Int) (20:Int)))))
def zrM:Cn Pg 13 [U0,iv most] [] [(U0,lc code)] (zh9 code most) (λr (_:Unit)=>iv r) λ_ _=>[]:=Ch Tryz.func13 r λw S Z=>Dt Z 8 [100] r<|Yo (Y.quo (by decide) r r)<|Qs 2 r<|Nx<|Dw Z 7 [] r<|Wc r (λa=>Dw Z 5 [] r<|Wv<|Rq) λa=>Sn<|Dw Z 5 [] r<|Wr<|Rq
def zcB (b:UInt8):Option (List UInt8):=bindC (loopO (λ(a:Int × List UInt8)=>if Dc (a.1<32)then Bb (app 1 a.2 ([b])) λc=>some (.go (I6.wrap (a.1+1),c))else some (.done (.go a.2))) ((0:Int),([]:List UInt8))) (λ(d:List UInt8)=>some d)
def zeg {b:UInt8} :Cn Pg 15 [.int .u8 (b.toNat:Int)] [] [] (zcB b) (λr (_:Unit)=>strV r) λ_ _=>[]:=Ch Tryz.func15 r λw S Z=>by
 refine Dt Z 6 [] r<|Fo (Bs ([]:List UInt8) ke22 kz5) λa=>Qs 1 r<|Nx<|Dw Z 5 [] r<|Jn Value [] [] (λ_ X=>[(3,X)]) (λT X=>[.own X (lc T)]) r2 r2 (?_) λg h=>?_
 ·exact Wb<|Lp Value [0] [] (λT X=>[(3,X),(4,iv T.1)]) (λT X=>[.own X (lc T.2)]) (.slice (some ⟨a,0,none⟩) 0 0) [0] r2 r2 λi c=>Dw Z 6 [] r<|Wc r (λd=>Sn<|Dt Z 5 [] r<|Fo (Bs [b] ke22 kz5) λj=>Bi λk e=>Fo (Ap [1] e ke22 kz5 r (Oc 0 r)) λf=>Qs 1 r<|Nl<|Bn<|Ne<|Rg<|Qs 3 r<|Nl<|Lg f [0]) λd=>We<|Jg c [0]
 exact Ne<|Sr<|Qs 1 r<|Yo (Y.toStr ke22 ki5 ks9 (Oc 0 r) r)<|Qs 1 r<|Nx<|Wr<|Rq
def zbT (c:Am):Option (Int × Am):=bindC (if Dc (c.i<(c.b.length:Int))then Bb (idx c.b c.i) λd=>some (.go (iand .i64 (I6.wrap (iand .i64 (ixor .i64 (ishr .i64 (I6.wrap (I6.wrap (c.h*6364136223846793005)+1442695040888963407)) 33) (ishr .i64 (I6.wrap (I6.wrap (c.h*6364136223846793005)+1442695040888963407)) 45)) 255+(I6.wrap (d.toNat:Int)))) 255,I6.wrap (c.i+1)))else some (.go (iand .i64 (ixor .i64 (ishr .i64 (I6.wrap (I6.wrap (c.h*6364136223846793005)+1442695040888963407)) 33) (ishr .i64 (I6.wrap (I6.wrap (c.h*6364136223846793005)+1442695040888963407)) 45)) 255,c.i))) (λ(a:Int × Int)=>some (a.1,(⟨c.b,a.2,I6.wrap (I6.wrap (c.h*6364136223846793005)+1442695040888963407)⟩:Am)))
def zcP:Cn Pg 77 [pt U1] [.box U1 82 [U0,iv c.i,iv c.h]] [(U0,lc c.b)] (zbT c) (λr (_:Unit)=>iv r.1) λr _=>[.box U1 82 [U0,iv r.2.i,iv r.2.h]]:=Ch Tryz.func77 r λw S Z=>by
 refine Dt Z 15 [0,0,0] r<|Fu (Sb 0 kk3 r (Cp r) r)<|Nx<|Sq<|Dz 1 [] [] r hMix<|Aj Z [0,1,2,3] [] [0,0] r<|Ay 4 r (Y.shr (by decide) r r)<|Aj Z [5,6,7,8] [] [0,0] r<|Ay 9 r (Y.shr (by decide) r r)<|Aq [10,11,12] r<|Az<|Ne<|Sq<|Sq<|Dz 1 [] [] r hMix<|Aj Z [0,1,2,3,4,5,6,7,8,9] [] [0,0,0,0,100] r<|Az<|Ne<|Jn Unit [] [] (λT _=>[(3,iv T.1)]) (λT _=>[.box U1 82 [U0,iv T.2,iv (I6.wrap (I6.wrap (c.h*6364136223846793005)+1442695040888963407))]]) r2 r2 (?_) λe f=>?_
 ·exact Wc r (λa=>Sq<|Dz 1 [] [] r hMix<|Aj Z [0,1,2,3,4,5,6,7,8] [] [0,0,0,0] r<|Ai λg d=>Ak (Kx Z (Xc d<|Xz)) [9,10] [] [100,0,300,0,0] r<|Ay 11 r (Y.conv ki5 ki3 r)<|Aq [12,13,14] r<|Az<|Ne<|Dt Z 9 [0,0,0] r<|Fu (Sb 0 kk3 r (Cp r) r)<|Nl<|Jg () [0]) λa=>Sk<|Jg () [0]
 exact Ne<|Dw Z 5 [] r<|Wr<|Re () [0]
def zB (c:Am) (n:Int):Option (Int × Am):=if Dc (n<=0)then some ((0:Int),c)else if Dc (n<=256)then Bb (zbT c) λa=>Bb (nz n) λj=>some (An a.1 n,(⟨c.b,a.2.i,a.2.h⟩:Am))else Bb (zbT c) λd=>Bb (zbT (⟨c.b,d.2.i,d.2.h⟩:Am)) λe=>Bb (zbT (⟨c.b,e.2.i,e.2.h⟩:Am)) λf=>Bb (zbT (⟨c.b,f.2.i,f.2.h⟩:Am)) λg=>Bb (nz n) λk=>some (An (I6.wrap (I6.wrap (I6.wrap (I6.wrap (d.1*16777216)+(I6.wrap (e.1*65536)))+(I6.wrap (f.1*256)))+g.1)) n,(⟨c.b,g.2.i,g.2.h⟩:Am))
def zy:Cn Pg 38 [pt U1,iv n] [.box U1 82 [U0,iv c.i,iv c.h]] [(U0,lc c.b)] (zB c n) (λr (_:Unit)=>iv r.1) λr _=>[.box U1 82 [U0,iv r.2.i,iv r.2.h]]:=Ch Tryz.func38 r λw S Z=>by
 refine Dw Z 10 [] r<|Wc r (λa=>Dw Z 4 [] r<|Wv<|Re () [0]) λa=>Sn<|Dw Z 6 [] r<|Wc r (λd=>Sr<|Qs 1 r<|Cc Z [0] [100] zcP r r2 λg j _=>Qs 1 r<|Bi λk e=>Yo (Y.rem (nz_ne e) r r)<|Qs 1 r<|Nx<|Wv<|Re () [0]) λd=>Sn<|Sr<|Qs 1 r<|Cc Z [0] [100] zcP r r2 λl m _=>Qs 1 r<|Nx<|Sr<|Qs 1 r<|Cc Z [0] [100] zcP r r2 λo p _=>Qs 1 r<|Nx<|Sr<|Qs 1 r<|Cc Z [0] [100] zcP r r2 λq s _=>Qs 1 r<|Nx<|Sr<|Qs 1 r<|Cc Z [0] [100] zcP r r2 λt u _=>?_
 exact Qs 1 r<|Nx<|Sr<|Qs 11 r<|Bi λv f=>Yo (Y.rem (nz_ne f) r r)<|Qs 1 r<|Nx<|Wr<|Re () [0]
def zbt (c:Am) (A:List Int):Option (Int × Am):=Bb (zB c (A.length:Int)) λa=>Bb (idx A a.1) λd=>some (d,(⟨c.b,a.2.i,a.2.h⟩:Am))
def zbZ {A:List Int} {U2:Value} :Cn Pg 35 [pt U1,U2] [.box U1 82 [U0,iv c.i,iv c.h]] [(U0,lc c.b),(U2,lc A)] (zbt c A) (λr (_:Unit)=>iv r.1) λr _=>[.box U1 82 [U0,iv r.2.i,iv r.2.h]]:=Ch Tryz.func35 r λw S Z=>Dt Z 10 [101] r<|Cc Z [0] [100] zy r r2 λd e _=>Bi λf a=>Vv (Kx Z (Xc a<|Xz)) 3 [101,0,301,0,0] r<|Nx<|Wr<|Re () [0]
def zbl (c:Am) (n:Int):Option (Bool × Am):=Bb (zB c n) λa=>some (Dc (a.1=0),(⟨c.b,a.2.i,a.2.h⟩:Am))
def zbr:Cn Pg 37 [pt U1,iv n] [.box U1 82 [U0,iv c.i,iv c.h]] [(U0,lc c.b)] (zbl c n) (λr (_:Unit)=>.bool r.1) λr _=>[.box U1 82 [U0,iv r.2.i,iv r.2.h]]:=Ch Tryz.func37 r λw S Z=>Dt Z 8 [] r<|Cc Z [0] [100] zy r r2 λa d _=>Qs 2 r<|Nx<|Wr<|Re () [0]
def zt (x A h:Int):Option Bool:=Bb (if Dc (x>=A)then some (Dc (x<=h))else some false) (λ(a:Bool)=>some a)
def zq {x A h:Int} :Cn Pg 28 [iv x,iv A,iv h] [] [] (zt x A h) (λr (_:Unit)=>.bool r) λ_ _=>[]:=Ch Tryz.func28 r λw S Z=>Dw Z 5 [] r<|Jv [] (λT=>[(6,.bool T)]) r1 (Rg<|Qs 4 r<|It (λa=>Vv (Kg Z (Gc a<|Gz)) 5 [0,0,0,0] r<|Nl<|Bv) λa=>Vv (Kg Z (Gc a<|Gz)) 5 [0,0,0,0] r<|Nl<|Bv) λb=>Ne<|Wr<|Rq
def zez (n:Int):Option (List UInt8):=Bb (zt n 0 562949953421311) λc=>if !c then some ([])else bindC (loopO (λ(a:Int × List UInt8)=>if Dc (a.1>=128)then Bb (app 1 a.2 ([toU8 (I6.wrap ((128:Int)+(An a.1 128)))])) λd=>some (.go (I6.wrap (Ba a.1 128),d))else some (.done (.go (a.1,a.2)))) (n,([]:List UInt8))) (λ(b:Int × List UInt8)=>Bb (app 1 b.2 ([toU8 b.1])) λe=>some e)
def zhu:Cn Pg 78 [iv n] [] [] (zez n) (λr (_:Unit)=>strV r) λ_ _=>[]:=Ch Tryz.func78 r λw S Z=>by
 refine Dt Z 8 [] r<|Cc Z [] [] zq r r2 λj k _=>Qs 1 r<|Nx<|Wc r (λa=>Dw Z 4 [] r<|Wv<|Rq) λa=>Sn<|Sr<|Fo (Bs ([]:List UInt8) ke22 kz5) λb=>Qs 1 r<|Nx<|Sq<|Jn Value [] [] (λT X=>[(0,iv T.1),(3,X)]) (λT X=>[.own X (lc T.2)]) r2 r2 (?_) λc l=>?_
 ·refine Wb<|Lp Value [] [] (λT X=>[(0,iv T.1),(3,X)]) (λT X=>[.own X (lc T.2)]) (.slice (some ⟨b,0,none⟩) 0 0) [0] r2 r2 λd e=>Dw Z 6 [] r<|Wc r (λf=>?_) λf=>?_
  ·exact Sn<|Dt Z 5 [] r<|Yo (Y.rem (by decide) r r)<|Qs 1 r<|Yo (Y.conv8 ki3 ki5 r)<|Fo (Bs [toU8 (I6.wrap ((128:Int)+(An d.1 128)))] ke22 kz5) λm=>Bi λo g=>Fo (Ap [1] g ke22 kz5 r (Oc 0 r)) λh=>Qs 1 r<|Nx<|Rg<|Qs 1 r<|Yo (Y.quo (by decide) r r)<|Qs 1 r<|Nl<|Bn<|Lg h [0]
  exact We<|Jg e [0]
 exact Ne<|Sr<|Qs 2 r<|Yo (Y.conv8 ki3 ki5 r)<|Fo (Bs [toU8 c.1] ke22 kz5) λp=>Bi λq i=>Fo (Ap [1] i ke22 kz5 r (Oc 0 r)) λs=>Yo (Y.toStr ke22 ki5 ks9 (Oc 0 r) r)<|Qs 1 r<|Nx<|Wr<|Rq
def zi1 (n h:Int):Option (List UInt8):=Bb (Bb (zt h 1 7) λc=>if !c then some true else some (Dc (n<0))) (λ(d:Bool)=>if d=true then some ([])else bindC (loopO (λ(a:Int × List UInt8 × Int)=>if Dc (a.2.2<h)then Bb (cat ([toU8 (An a.1 256)]) a.2.1) λe=>some (.go (I6.wrap (Ba a.1 256),e,I6.wrap (a.2.2+1)))else some (.done (.go (a.1,a.2.1)))) (n,[],(0:Int))) (λ(b:Int × List UInt8)=>if Dc (b.1>0)then some ([])else some b.2))
def zsG {A:Int} :Cn Pg 138 [iv n,iv A] [] [] (zi1 n A) (λr (_:Unit)=>strV r) λ_ _=>[]:=Ch Tryz.func138 r λw S Z=>by
 refine Dw Z 6 [] r<|Jv [0,1] (λT=>[(13,.bool T)]) r1 (Rg<|Qs 1 r<|Cc Z [] [] zq r r2 λg h _=>Qs 2 r<|It (λa=>Of 2 (zh a) r r<|Yo (Pt a r)<|Nl<|Bv) λa=>Qg 2 (zf a) r r<|Yo (Pf a r)<|Nl<|Bv) λi=>Ne<|Wc r (λb=>Dw Z 4 [] r<|Wv<|Rq) λb=>Sn<|Dw Z 9 [] r<|Ju [] (λT=>[(0,iv T.1),(5,strV T.2)]) r1 (?_) λj=>?_
 ·refine Wb<|Lu [1] (λT=>[(0,iv T.1),(5,strV T.2.1),(6,iv T.2.2)]) r1 λc=>Dw Z 7 [] r<|Wc r (λd=>?_) λd=>?_
  ·exact Sn<|Dt Z 5 [] r<|Yo (Y.rem (by decide) r r)<|Yo (Y.conv8 ki3 ki5 r)<|Fo (Bs [toU8 (An c.1 256)] ke22 kz5) λk=>Yo (Y.toStr ke22 ki5 ks9 (Oc 0 r) r)<|Qs 1 r<|Bi λl e=>Yo (Y.cat e r r)<|Qs 1 r<|Nx<|Rg<|Qs 1 r<|Yo (Y.quo (by decide) r r)<|Qs 1 r<|Nl<|Bn<|Ne<|Rg<|Qs 3 r<|Nl<|Lq
  exact We<|Jq
 exact Ne<|Dw Z 6 [] r<|Wc r (λf=>Dw Z 4 [] r<|Wv<|Rq) λf=>Sn<|Dw Z 5 [] r<|Wr<|Rq
def zeb (kind n:Int):Option (List UInt8):=Bb (Bb (zt kind 0 255) λa=>if !a then some true else Bb (zt n 0 562949953421311) λb=>some (!b)) (λ(c:Bool)=>if c=true then some ([])else Bb (zi1 n 7) λd=>Bb (cat ([toU8 kind,(0:UInt8),(0:UInt8),(0:UInt8),(0:UInt8)]) d) λe=>some e)
def zhR {kind:Int} :Cn Pg 80 [iv kind,iv n] [] [] (zeb kind n) (λr (_:Unit)=>strV r) λ_ _=>[]:=Ch Tryz.func80 r λw S Z=>by
 refine Dw Z 6 [] r<|Jv [0,1] (λT=>[(12,.bool T)]) r1 (Rg<|Qs 1 r<|Cc Z [] [] zq r r2 λf g _=>Qs 2 r<|It (λa=>Of 3 (zh a) r r<|Yo (Pt a r)<|Nl<|Bv) λa=>Qg 1 (zf a) r r<|Bi λh b=>Fg (gdA (zf a)) (Cl [] zq b r r1) λ_=>Vv (Kg Z (Gc a<|Gz)) 2 [0,0] r<|Nl<|Bv) λi=>Ne<|Wc r (λc=>Dw Z 4 [] r<|Wv<|Rq) λc=>Sn<|Sq<|Wi λj d=>Wi λk e=>Dr [] [] r hMix<|Aq [0] r<|Ay 1 r (Y.conv8 ki3 ki5 r)<|Aq [4] r<|Ts (Sc 5 r (λ_ _ A=>Cl [] zsG d r r1) Sz) r<|Me 2 r (λ_ _ A=>Bs [toU8 kind,(0:UInt8),(0:UInt8),(0:UInt8),(0:UInt8)] ke22 kz5) λl=>?_
 exact Mi 3 r (λ_ _ A=>Y.toStr ke22 ki5 ks9 (Oc 0 r) r)<|Mc λ_=>Mo<|Ay 6 r (Y.cat e r r)<|Aq [7] r<|Az<|Ne<|Wr<|Rq
def zK (s:List UInt8) (at_:Int):Option Int:=Bb (sidx s at_) λa=>Bb (sidx s (I6.wrap (at_+1))) λb=>Bb (sidx s (I6.wrap (at_+2))) λc=>Bb (sidx s (I6.wrap (at_+3))) λd=>some (ior .i64 (ior .i64 (ior .i64 (I6.wrap (a.toNat:Int)) (ishl .i64 (I6.wrap (b.toNat:Int)) 8)) (ishl .i64 (I6.wrap (c.toNat:Int)) 16)) (ishl .i64 (I6.wrap (d.toNat:Int)) 24))
def ze1 {s:List UInt8} {at_:Int} :Cn Pg 190 [strV s,iv at_] [] [] (zK s at_) (λr (_:Unit)=>iv r) λ_ _=>[]:=Ch Tryz.func190 r λw S Z=>Dw Z 5 [] r<|Dr [] [] r hMix<|Aq [0,1] r<|Ai λe a=>Ay 2 r (Y.sidx a ks9 r r)<|Ay 3 r (Y.conv ki5 ki3 r)<|Aq [4,5,6] r<|Ai λf b=>Ay 7 r (Y.sidx b ks9 r r)<|Ay 8 r (Y.conv ki5 ki3 r)<|Ay 9 r (Y.shl (by decide) r r)<|Aq [10,11,12,13] r<|Ai λg c=>Ay 14 r (Y.sidx c ks9 r r)<|Ay 15 r (Y.conv ki5 ki3 r)<|Ay 16 r (Y.shl (by decide) r r)<|Aq [17,18,19,20] r<|Ai λh d=>Ay 21 r (Y.sidx d ks9 r r)<|Ay 22 r (Y.conv ki5 ki3 r)<|Ay 23 r (Y.shl (by decide) r r)<|Aq [24,25] r<|Az<|Ne<|Wr<|Rq
def zbV (x:Int):Option Int:=some (iand .i64 x 4294967295)
def zdt {x:Int} :Cn Pg 192 [iv x] [] [] (zbV x) (λr (_:Unit)=>iv r) λ_ _=>[]:=Ch Tryz.func192 r λw S Z=>Dw Z 10 [] r<|Wr<|Rq
def zc0 (x n:Int):Option Int:=Bb (nn n) λb=>Bb (zbV (ior .i64 (ishl .i64 x n) (ishr .i64 x (IntKind.u64.wrap ((32:Int) - n))))) λa=>some a
def zgl {x:Int} :Cn Pg 232 [iv x,.int .u64 n] [] [] (zc0 x n) (λr (_:Unit)=>iv r) λ_ _=>[]:=Ch Tryz.func232 r λw S Z=>Dt Z 8 [] r<|Bi λb a=>Yo (Y.shl (nn_ge a) r r)<|Qs 3 r<|Yo (Y.shr (zgp r _) r r)<|Qs 1 r<|Cc Z [] [] zdt r r2 λc d _=>Qs 1 r<|Nx<|Wr<|Rq
def zj (s:List Int) (a b c d:Int):Option (List Int):=Bb (idx s a) λl=>Bb (idx s b) λm=>Bb (zbV (I6.wrap (l+m))) λe=>Bb (idx (s.set a.toNat e) d) λn=>Bb (zc0 (ixor .i64 n e) (16:Int)) λf=>Bb (idx ((s.set a.toNat e).set d.toNat f) c) λo=>Bb (zbV (I6.wrap (o+f))) λg=>Bb (idx (((s.set a.toNat e).set d.toNat f).set c.toNat g) b) λp=>Bb (zc0 (ixor .i64 p g) (12:Int)) λh=>Bb (idx ((((s.set a.toNat e).set d.toNat f).set c.toNat g).set b.toNat h) a) λq=>Bb (zbV (I6.wrap (q+h))) λi=>Bb (idx (((((s.set a.toNat e).set d.toNat f).set c.toNat g).set b.toNat h).set a.toNat i) d) λt=>Bb (zc0 (ixor .i64 t i) (8:Int)) λj=>Bb (idx ((((((s.set a.toNat e).set d.toNat f).set c.toNat g).set b.toNat h).set a.toNat i).set d.toNat j) c) λu=>Bb (zbV (I6.wrap (u+j))) λk=>Bb (idx (((((((s.set a.toNat e).set d.toNat f).set c.toNat g).set b.toNat h).set a.toNat i).set d.toNat j).set c.toNat k) b) λv=>Bb (zc0 (ixor .i64 v k) (7:Int)) λw=>some ((((((((s.set a.toNat e).set d.toNat f).set c.toNat g).set b.toNat h).set a.toNat i).set d.toNat j).set c.toNat k).set b.toNat w)
def zbD {s:List Int} {a b c d:Int} :Cn Pg 191 [U0,iv a,iv b,iv c,iv d] [.own U0 (lc s)] [] (zj s a b c d) (λ_ (X:Value)=>X) λr X=>[.own X (lc r)]:=Ch Tryz.func191 r λw S Z=>by
 refine Dw Z 5 [] r<|Dr [0] [13] r hMix<|Aq [0,1,2,3] r<|Ai λG e=>Ak (Kx Z (Xc e<|Xz)) [4,5,6,7] [15392,15360] [0,0,200,0,0] r<|Ai λH m=>Ak (Kx Z (Xc m<|Xz)) [8,9,10] [15872,15360] [0,0,200,0,0] r<|Ai λn o=>A1 11<|Xe r (Cl [] zdt o r r1) λ_=>Ab 12 8192 r (Ix ke60 (Oc 0 r) e r)<|A1 13<|Xu r (Se n 0 kk3 e r (Cp r) r)<|Az<|Ne<|Sq<|Dr [0] [13] r hMix<|Aq [0,1,2,3] r<|Ai λI f=>Ak (Kx Z (Xc f<|Xz)) [4,5,6,7] [15392,15360] [0,0,200,0,0] r<|Ab 8 15872 r (Ix ke60 (Oc 0 r) (zW e) r)<|Ab 9 15360 r (Le kk3 (Oc 0 r) (zW e) r)<|Aq [10] r<|Ai λp q=>?_
 refine A1 11<|Xe r (Cl [] zgl q r r1) λ_=>Ab 12 8192 r (Ix ke60 (Oc 0 r) f r)<|A1 13<|Xu r (Se p 0 kk3 f r (Cp r) r)<|Az<|Ne<|Sq<|Dr [0] [13] r hMix<|Aq [0,1,2,3] r<|Ai λJ g=>Ak (Kx Z (Xc g<|Xz)) [4,5,6,7] [15392,15360] [0,0,200,0,0] r<|Ab 8 15872 r (Ix ke60 (Oc 0 r) (zW f) r)<|Ab 9 15360 r (Le kk3 (Oc 0 r) (zW f) r)<|Aq [10] r<|Ai λt u=>A1 11<|Xe r (Cl [] zdt u r r1) λ_=>Ab 12 8192 r (Ix ke60 (Oc 0 r) g r)<|A1 13<|Xu r (Se t 0 kk3 g r (Cp r) r)<|Az<|Ne<|Sq<|Dr [0] [13] r hMix<|Aq [0,1,2,3] r<|Ai λK h=>?_
 refine Ak (Kx Z (Xc h<|Xz)) [4,5,6,7] [15392,15360] [0,0,200,0,0] r<|Ab 8 15872 r (Ix ke60 (Oc 0 r) (zW g) r)<|Ab 9 15360 r (Le kk3 (Oc 0 r) (zW g) r)<|Aq [10] r<|Ai λv x=>A1 11<|Xe r (Cl [] zgl x r r1) λ_=>Ab 12 8192 r (Ix ke60 (Oc 0 r) h r)<|A1 13<|Xu r (Se v 0 kk3 h r (Cp r) r)<|Az<|Ne<|Sq<|Dr [0] [13] r hMix<|Aq [0,1,2,3] r<|Ai λL i=>Ak (Kx Z (Xc i<|Xz)) [4,5,6,7] [15392,15360] [0,0,200,0,0] r<|Ab 8 15872 r (Ix ke60 (Oc 0 r) (zW h) r)<|Ab 9 15360 r (Le kk3 (Oc 0 r) (zW h) r)<|Aq [10] r<|Ai λy z=>?_
 refine A1 11<|Xe r (Cl [] zdt z r r1) λ_=>Ab 12 8192 r (Ix ke60 (Oc 0 r) i r)<|A1 13<|Xu r (Se y 0 kk3 i r (Cp r) r)<|Az<|Ne<|Sq<|Dr [0] [13] r hMix<|Aq [0,1,2,3] r<|Ai λM j=>Ak (Kx Z (Xc j<|Xz)) [4,5,6,7] [15392,15360] [0,0,200,0,0] r<|Ab 8 15872 r (Ix ke60 (Oc 0 r) (zW i) r)<|Ab 9 15360 r (Le kk3 (Oc 0 r) (zW i) r)<|Aq [10] r<|Ai λA B=>A1 11<|Xe r (Cl [] zgl B r r1) λ_=>Ab 12 8192 r (Ix ke60 (Oc 0 r) j r)<|A1 13<|Xu r (Se A 0 kk3 j r (Cp r) r)<|Az<|Ne<|Sq<|Dr [0] [13] r hMix<|Aq [0,1,2,3] r<|Ai λN k=>?_
 refine Ak (Kx Z (Xc k<|Xz)) [4,5,6,7] [15392,15360] [0,0,200,0,0] r<|Ab 8 15872 r (Ix ke60 (Oc 0 r) (zW j) r)<|Ab 9 15360 r (Le kk3 (Oc 0 r) (zW j) r)<|Aq [10] r<|Ai λC D=>A1 11<|Xe r (Cl [] zdt D r r1) λ_=>Ab 12 8192 r (Ix ke60 (Oc 0 r) k r)<|A1 13<|Xu r (Se C 0 kk3 k r (Cp r) r)<|Az<|Ne<|Sq<|Dr [0] [13] r hMix<|Aq [0,1,2,3] r<|Ai λO l=>Ak (Kx Z (Xc l<|Xz)) [4,5,6,7] [15392,15360] [0,0,200,0,0] r<|Ab 8 15872 r (Ix ke60 (Oc 0 r) (zW k) r)<|Ab 9 15360 r (Le kk3 (Oc 0 r) (zW k) r)<|Aq [10] r<|Ai λE F=>?_
 exact A1 11<|Xe r (Cl [] zgl F r r1) λ_=>Ab 12 8192 r (Ix ke60 (Oc 0 r) l r)<|A1 13<|Xu r (Se E 0 kk3 l r (Cp r) r)<|Az<|Ne<|Dw Z 5 [] r<|Wr<|Re U0 [0]
def zjG (key:List UInt8) (counter:Int) (nonce:List UInt8):Option (List UInt8):=bindC (loopO (λ(b:Int × List Int)=>if Dc (b.1<8)then Bb (zK key (I6.wrap ((4:Int)*b.1))) λf=>Bb (app 8 b.2 ([f])) λg=>some (.go (I6.wrap (b.1+1),g))else some (.done (.go b.2))) ((0:Int),([(1634760805:Int),(857760878:Int),(2036477234:Int),(1797285236:Int)]))) (λ(h:List Int)=>Bb (zK nonce 0) λi=>Bb (zK nonce 4) λj=>Bb (zK nonce 8) λk=>Bb (app 8 h ([counter,i,j,k])) λe=>Bb (app 8 ([]:List Int) e) λl=>bindC (loopO (λ(c:Int × List Int)=>if Dc (c.1<10)then Bb (zj c.2 0 4 (8:Int) (12:Int)) λm=>Bb (zj m 1 5 (9:Int) (13:Int)) λn=>Bb (zj n 2 6 (10:Int) (14:Int)) λo=>Bb (zj o 3 7 (11:Int) (15:Int)) λp=>Bb (zj p 0 5 (10:Int) (15:Int)) λq=>Bb (zj q 1 6 (11:Int) (12:Int)) λs=>Bb (zj s 2 7 (8:Int) (13:Int)) λt=>Bb (zj t 3 4 (9:Int) (14:Int)) λu=>some (.go (I6.wrap (c.1+1),u))else some (.done (.go c.2))) ((0:Int),l)) (λ(v:List Int)=>bindC (loopO (λ(a:Int × List UInt8)=>if Dc (a.1<16)then Bb (idx v a.1) λw=>Bb (idx e a.1) λx=>Bb (zbV (I6.wrap (w+x))) λd=>Bb (app 1 a.2 ([toU8 (iand .i64 d 255),toU8 (iand .i64 (ishr .i64 d 8) 255),toU8 (iand .i64 (ishr .i64 d 16) 255),toU8 (ishr .i64 d 24)])) λy=>some (.go (I6.wrap (a.1+1),y))else some (.done (.go a.2))) ((0:Int),([]:List UInt8))) (λ(z:List UInt8)=>some z)))
def zqv {key:List UInt8} {nonce:List UInt8} :Cn Pg 137 [strV key,iv counter,strV nonce] [] [] (zjG key counter nonce) (λr (_:Unit)=>strV r) λ_ _=>[]:=Ch Tryz.func137 r λw S Z=>by
 refine Dt Z 6 [] r<|Fo (Bs [(1634760805:Int),(857760878:Int),(2036477234:Int),(1797285236:Int)] ke60 kz3) λb=>Qs 1 r<|Nx<|Dw Z 5 [] r<|Jn Value [1,2] [] (λ_ X=>[(7,X)]) (λT X=>[.own X (lc T)]) r2 r2 (?_) λA B=>?_
 ·exact Wb<|Lp Value [0,1,2] [] (λT X=>[(7,X),(8,iv T.1)]) (λT X=>[.own X (lc T.2)]) (.slice (some ⟨b,0,none⟩) 4 4) [0] r2 r2 λC c=>Dw Z 6 [] r<|Wc r (λd=>Sn<|Dt Z 7 [] r<|Cc Z [] [] ze1 r r2 λe D _=>Fo (Bs [e] ke60 kz3) λE=>Bi λF f=>Fo (Ap [1] f ke60 kz3 r (Oc 0 r)) λg=>Qs 1 r<|Nl<|Bn<|Ne<|Rg<|Qs 3 r<|Nl<|Lg g [0]) λd=>We<|Jg c [0]
 refine Ne<|Sr<|Qs 3 r<|Cc Z [] [] ze1 r r2 λh G _=>Qs 1 r<|Cc Z [] [] ze1 r r2 λi H _=>Qs 1 r<|Cc Z [] [] ze1 r r2 λj I _=>Fo (Bs [counter,h,i,j] ke60 kz3) λJ=>Bi λK k=>Fo (Ap [1] k ke60 kz3 r (Oc 0 r)) λL=>Qs 1 r<|Nx<|Sr<|Fo (Bs ([]:List Int) ke60 kz3) λM=>Qs 1 r<|Bi λN l=>Fo (Ap [0] l ke60 kz3 r (Oc 1 r)) λm=>Qs 1 r<|Nx<|Dw Z 5 [] r<|Jn Value [7] [1] (λ_ X=>[(9,X)]) (λT X=>[.own X (lc T)]) r2 r2 (?_) λO P=>?_
 ·refine Wb<|Lp Value [7] [1] (λT X=>[(9,X),(10,iv T.1)]) (λT X=>[.own X (lc T.2)]) m [1,0] r2 r2 λQ n=>Dw Z 6 [] r<|Wc r (λo=>?_) λo=>?_
  ·refine Sn<|Dt Z 5 [] r<|Cc Z [1] [] zbD r r2 λR U V=>Qs 1 r<|Nx<|Sr<|Qs 1 r<|Cc Z [0] [] zbD r r2 λW aa ab=>Qs 1 r<|Nx<|Sr<|Qs 1 r<|Cc Z [0] [] zbD r r2 λac ad ae=>Qs 1 r<|Nx<|Sr<|Qs 1 r<|Cc Z [0] [] zbD r r2 λaf ag ah=>Qs 1 r<|Nx<|Sr<|Qs 1 r<|Cc Z [0] [] zbD r r2 λai aj ak=>Qs 1 r<|Nx<|Sr<|Qs 1 r<|Cc Z [0] [] zbD r r2 λal am an=>Qs 1 r<|Nx<|Sr<|Qs 1 r<|Cc Z [0] [] zbD r r2 λao ap aq=>?_
   exact Qs 1 r<|Nx<|Rg<|Qs 1 r<|Cc Z [0] [] zbD r r2 λar au p=>Qs 1 r<|Nl<|Bn<|Ne<|Rg<|Qs 3 r<|Nl<|Lg p [1,0]
  exact We<|Jg n [0,0]
 refine Ne<|Sr<|Fo (Bs ([]:List UInt8) ke22 kz5) λq=>Qs 1 r<|Nx<|Dw Z 5 [] r<|Jn Value [] [] (λ_ X=>[(11,X)]) (λT X=>[.own X (lc T)]) r2 r2 (?_) λav aw=>?_
 ·refine Wb<|Lp Value [7,9] [1,1] (λT X=>[(11,X),(12,iv T.1)]) (λT X=>[.own X (lc T.2)]) (.slice (some ⟨q,0,none⟩) 0 0) [1,1,0] r2 r2 λax s=>Dw Z 6 [] r<|Wc r (λt=>?_) λt=>?_
  ·refine Sn<|Sq<|Wb<|Sq<|Dz 3 [] [] r hMix<|Aq [0,1] r<|Ai λay u=>Ak (Kx Z (Xc u<|Xz)) [2,3,4,5] [] [1,0,201,0,0] r<|Ai λaz v=>Ak (Kx Z (Xc v<|Xz)) [6,7,8] [] [0,0,200,0,0] r<|Ai λa x=>A1 9<|Xe r (Cl [] zdt x r r1) λ_=>Aq [10] r<|Az<|Ne<|Rg<|Qs 3 r<|Yo (Y.conv8 ki3 ki5 r)<|Qs 1 r<|Yo (Y.shr (by decide) r r)<|Qs 1 r<|Yo (Y.conv8 ki3 ki5 r)<|Qs 1 r<|Yo (Y.shr (by decide) r r)<|Qs 1 r<|Yo (Y.conv8 ki3 ki5 r)<|Qs 1 r<|Yo (Y.shr (by decide) r r)<|Yo (Y.conv8 ki3 ki5 r)<|Fo (Bs [toU8 (iand .i64 a 255),toU8 (iand .i64 (ishr .i64 a 8) 255),toU8 (iand .i64 (ishr .i64 a 16) 255),toU8 (ishr .i64 a 24)] ke22 kz5) λaA=>?_
   exact Bi λaB y=>Fo (Ap [3] y ke22 kz5 r (Oc 0 r)) λz=>Qs 1 r<|Nl<|Bn<|Ne<|Rg<|Qs 3 r<|Nl<|Lg z [2,2,0]
  exact We<|Jg s [2]
 exact Ne<|Sr<|Qs 1 r<|Yo (Y.toStr ke22 ki5 ks9 (Oc 0 r) r)<|Qs 1 r<|Nx<|Wr<|Rq
def zcO (key:List UInt8) (counter:Int) (nonce:List UInt8):Option (List UInt8):=Bb (if !(Dc ((key.length:Int)=32))then some true else if !(Dc ((nonce.length:Int)=12))then some true else Bb (zt counter 0 4294967295) λa=>some (!a)) (λ(b:Bool)=>if b=true then some ([])else Bb (zjG key counter nonce) λc=>some c)
def zhk {key:List UInt8} {nonce:List UInt8} :Cn Pg 79 [strV key,iv counter,strV nonce] [] [] (zcO key counter nonce) (λr (_:Unit)=>strV r) λ_ _=>[]:=Ch Tryz.func79 r λw S Z=>by
 refine Dw Z 6 [] r<|Jv [0,1,2] (λT=>[(19,.bool T)]) r1 (?_) λe=>?_
 ·exact Rg<|Qs 1 r<|Yo (Y.slen ks9 r)<|Qs 2 r<|It (λb=>Vv (Kg Z (Gc b<|Gz)) 5 [0,0,0,0] r<|Of 3 r r r<|Yo (Pt r r)<|Nl<|Bv) λb=>Qg 1 (zf b) r r<|Yg (gdA (zf b)) (Y.slen ks9 r)<|Vv (Kg Z (Gc b<|Gz)) 3 [0,0] r<|It (λa=>Of 3 (zh a) r r<|Yo (Pt a r)<|Nl<|Bv) λa=>Qg 1 (zf a) r r<|Bi λf c=>Fg (gdA (zf a)) (Cl [] zq c r r1) λ_=>Vv (Kg Z (Gc a<|Gz)) 2 [0,0] r<|Nl<|Bv
 exact Ne<|Wc r (λd=>Dw Z 4 [] r<|Wv<|Rq) λd=>Sn<|Sr<|Qs 3 r<|Cc Z [] [] zqv r r2 λg h _=>Qs 1 r<|Nx<|Wr<|Rq
def zcs (secret:List UInt8) (tenant A:Int):Option (List UInt8):=Bb (if !(Dc ((secret.length:Int)=32))then some true else Bb (zt tenant 1 99) λa=>if !a then some true else Bb (zt A 0 1000000) λb=>some (!b)) (λ(c:Bool)=>if c=true then some ([])else Bb (zez tenant) λd=>Bb (zez A) λe=>Bb (cat d e) λf=>Bb (zeb 2 tenant) λg=>Bb (zcO secret A g) λh=>Bb (ssub h 0 8) λi=>Bb (cat f i) λj=>some j)
def zex {tenant A:Int} :Cn Pg 39 [strV secret,iv tenant,iv A] [] [] (zcs secret tenant A) (λr (_:Unit)=>strV r) λ_ _=>[]:=Ch Tryz.func39 r λw S Z=>by
 refine Dw Z 6 [] r<|Jv [0,1,2] (λT=>[(19,.bool T)]) r1 (?_) λi=>?_
 ·exact Rg<|Qs 1 r<|Yo (Y.slen ks9 r)<|Qs 2 r<|It (λb=>Vv (Kg Z (Gc b<|Gz)) 5 [0,0,0,0] r<|Of 3 r r r<|Yo (Pt r r)<|Nl<|Bv) λb=>Qg 1 (zf b) r r<|Bi λj c=>Fg (gdA (zf b)) (Cl [] zq c r r1) λ_=>Vv (Kg Z (Gc b<|Gz)) 3 [0,0] r<|It (λa=>Of 3 (zh a) r r<|Yo (Pt a r)<|Nl<|Bv) λa=>Qg 1 (zf a) r r<|Bi λk d=>Fg (gdA (zf a)) (Cl [] zq d r r1) λ_=>Vv (Kg Z (Gc a<|Gz)) 2 [0,0] r<|Nl<|Bv
 exact Ne<|Wc r (λe=>Dw Z 4 [] r<|Wv<|Rq) λe=>Sn<|Sr<|Qs 1 r<|Cc Z [] [] zhu r r2 λl m _=>Qs 1 r<|Cc Z [] [] zhu r r2 λn o _=>Bi λp f=>Yo (Y.cat f r r)<|Qs 3 r<|Cc Z [] [] zhR r r2 λq s _=>Cc Z [] [] zhk r r2 λt u _=>Bi λv g=>Yo (Y.ssub_to g ks9 r r)<|Bi λx h=>Yo (Y.cat h r r)<|Qs 1 r<|Nx<|Wr<|Rq
def zb7 (c:Am) (A:List (List UInt8)):Option (List UInt8 × Am):=Bb (zB c (A.length:Int)) λa=>Bb (idx A a.1) λd=>some (d,(⟨c.b,a.2.i,a.2.h⟩:Am))
def zcQ {A:List (List UInt8)} {U2:Value} :Cn Pg 40 [pt U1,U2] [.box U1 82 [U0,iv c.i,iv c.h]] [(U0,lc c.b),(U2,lc A)] (zb7 c A) (λr (_:Unit)=>strV r.1) λr _=>[.box U1 82 [U0,iv r.2.i,iv r.2.h]]:=Ch Tryz.func40 r λw S Z=>Dt Z 10 [101] r<|Cc Z [0] [100] zy r r2 λd e _=>Bi λf a=>Vv (Kx Z (Xc a<|Xz)) 3 [101,0,301,0,0] r<|Nx<|Wr<|Re () [0]
def zi4 (c:Am):Option (List UInt8 × Am):=Bb (zb7 c ([[97],[98],[97,98],[97,98,99],[98,48],[99],[0],[122,122]])) λa=>some (a.1,(⟨c.b,a.2.i,a.2.h⟩:Am))
def zsJ:Cn Pg 139 [pt U1] [.box U1 82 [U0,iv c.i,iv c.h]] [(U0,lc c.b)] (zi4 c) (λr (_:Unit)=>strV r.1) λr _=>[.box U1 82 [U0,iv r.2.i,iv r.2.h]]:=Ch Tryz.func139 r λw S Z=>Dt Z 7 [] r<|Fo (Bs ([[97],[98],[97,98],[97,98,99],[98,48],[99],[0],[122,122]]:List (List UInt8)) ke93 kz9) λa=>Cc Z [1] [100,0] zcQ r r2 λd e _=>Qs 1 r<|Nx<|Wr<|Re () [0]
def zdM (c:Am) (most:Int):Option (List UInt8 × Am):=Bb (zB c 4) λd=>Bb (zB (⟨c.b,d.2.i,d.2.h⟩:Am) (I6.wrap (most+1))) λf=>bindC (loopO (λ(a:Int × Int × Int × List UInt8)=>if Dc (a.2.2.1>0)then Bb (zbT (⟨c.b,a.1,a.2.1⟩:Am)) λe=>bindC (if Dc (d.1=1)then some (.go (An e.1 2))else some (.go e.1)) (λ(j:Int)=>bindC (if Dc (d.1=2)then some (.go (I6.wrap ((97:Int)+(An j 4))))else some (.go j)) (λ(k:Int)=>Bb (app 1 a.2.2.2 ([toU8 k])) λl=>some (.go (e.2.i,e.2.h,I6.wrap (a.2.2.1 - 1),l))))else some (.done (.go (a.1,a.2.1,a.2.2.2)))) (f.2.i,f.2.h,f.1,([]:List UInt8))) (λ(g:Int × Int × List UInt8)=>some (g.2.2,(⟨c.b,g.1,g.2.1⟩:Am)))
def zge:Cn Pg 82 [pt U1,iv most] [.box U1 82 [U0,iv c.i,iv c.h]] [(U0,lc c.b)] (zdM c most) (λr (_:Unit)=>strV r.1) λr _=>[.box U1 82 [U0,iv r.2.i,iv r.2.h]]:=Ch Tryz.func82 r λw S Z=>by
 refine Dt Z 6 [] r<|Fo (Bs ([]:List UInt8) ke22 kz5) λa=>Qs 1 r<|Nx<|Sr<|Qs 1 r<|Cc Z [1] [100] zy r r2 λm n _=>Qs 1 r<|Nx<|Dt Z 6 [] r<|Cc Z [0] [100] zy r r2 λo p _=>Qs 1 r<|Nx<|Jn Value [] [] (λ_ X=>[(5,X)]) (λT X=>[.box U1 82 [U0,iv T.1,iv T.2.1],.own X (lc T.2.2)]) r2 r2 (?_) λq s=>?_
 ·refine Wb<|Lp Value [0,6] [] (λT X=>[(5,X),(7,iv T.2.2.1)]) (λT X=>[.box U1 82 [U0,iv T.1,iv T.2.1],.own X (lc T.2.2.2)]) (.slice (some ⟨a,0,none⟩) 0 0) [0,0] r2 r2 λt d=>Dw Z 6 [] r<|Wc r (λe=>?_) λe=>?_
  ·refine Sn<|Dt Z 5 [] r<|Cc Z [0] [100] zcP r r2 λu v _=>Qs 1 r<|Nx<|Dw Z 6 [] r<|Ju [0,5,6,7] (λT=>[(8,iv T)]) r1 (Wc r (λf=>Rg<|Qs 1 r<|Yo (Y.rem (by decide) r r)<|Qs 1 r<|Nl<|Jg () [0,0]) λf=>Sk<|Jg () [0,0]) λx=>Ne<|Dw Z 6 [] r<|Ju [0,5,6,7] (λT=>[(8,iv T)]) r1 (Wc r (λg=>Rg<|Qs 1 r<|Yo (Y.rem (by decide) r r)<|Qs 2 r<|Nl<|Jg () [0,0]) λg=>Sk<|Jg () [0,0]) λj=>Ne<|Rg<|Qs 2 r<|Yo (Y.conv8 ki3 ki5 r)<|Fo (Bs [toU8 j] ke22 kz5) λy=>Bi λz k=>Fo (Ap [2] k ke22 kz5 r (Oc 0 r)) λl=>?_
   exact Qs 1 r<|Nl<|Bn<|Ne<|Rg<|Qs 3 r<|Nl<|Lg l [2,0]
  exact We<|Jg d [0,0]
 exact Ne<|Sr<|Qs 1 r<|Yo (Y.toStr ke22 ki5 ks9 (Oc 1 r) r)<|Qs 1 r<|Nx<|Wr<|Re () [0]
def zhD (c:Am):Option (List Op × Am):=Bb (zB c 4) λm=>bindC (loopO (λ(e:Int × Int × Int × List Op)=>if Dc (e.2.2.1>0)then Bb (zi4 (⟨c.b,e.1,e.2.1⟩:Am)) λn=>Bb (zbl (⟨c.b,n.2.i,n.2.h⟩:Am) (3:Int)) λg=>bindC (if g.1=true then some (.go (g.2.i,g.2.h,true,[]))else Bb (zdM (⟨c.b,g.2.i,g.2.h⟩:Am) (5:Int)) λo=>some (.go (o.2.i,o.2.h,false,o.1))) (λ(l:Int × Int × Bool × List UInt8)=>Bb (app 40 e.2.2.2 ([(⟨n.1,l.2.2.1,l.2.2.2⟩:Op)])) λx=>some (.go (l.1,l.2.1,I6.wrap (e.2.2.1 - 1),x)))else some (.done (.go (e.1,e.2.1,e.2.2.2)))) (m.2.i,m.2.h,I6.wrap ((1:Int)+m.1),([]:List Op))) (λ(a:Int × Int × List Op)=>Bb (zbl (⟨c.b,a.1,a.2.1⟩:Am) (10:Int)) λk=>bindC (if k.1=true then Bb (zB (⟨c.b,k.2.i,k.2.h⟩:Am) (a.2.2.length:Int)) λf=>Bb (zB (⟨c.b,f.2.i,f.2.h⟩:Am) (4:Int)) λd=>bindC (if Dc (d.1=0)then Bb (zb7 (⟨c.b,d.2.i,d.2.h⟩:Am) ([[],[97,97,97,97,97,97,97,97,97,97],[97,97,97,97,97,97,97,97,97,97,97]])) λp=>Bb (idx a.2.2 f.1) λv=>some (.go (p.2.i,p.2.h,(a.2.2.set f.1.toNat (⟨p.1,v.P,v.M⟩:Op))))else bindC (if Dc (d.1=1)then Bb (zdM (⟨c.b,d.2.i,d.2.h⟩:Am) (1:Int)) λq=>Bb (cat ([97,97,97,97,97,97,97,97,97,97,97,97,97,97,97,97]) q.1) λy=>Bb (idx a.2.2 f.1) λw=>some (.go (q.2.i,q.2.h,(a.2.2.set f.1.toNat (⟨w.j,w.P,y⟩:Op))))else bindC (if Dc (d.1=2)then Bb (app 40 a.2.2 a.2.2) λz=>some (.go z)else some (.go ([]:List Op))) (λ(A:List Op)=>some (.go (d.2.i,d.2.h,A)))) (λ(s:Int × Int × List Op)=>some (.go (s.1,s.2.1,s.2.2)))) (λ(t:Int × Int × List Op)=>some (.go (t.1,t.2.1,t.2.2)))else some (.go (k.2.i,k.2.h,a.2.2))) (λ(u:Int × Int × List Op)=>some (u.2.2,(⟨c.b,u.1,u.2.1⟩:Am))))
def zqw:Cn Pg 81 [pt U1] [.box U1 82 [U0,iv c.i,iv c.h]] [(U0,lc c.b)] (zhD c) (λ_ (X:Value)=>X) λr X=>[.box U1 82 [U0,iv r.2.i,iv r.2.h],.own X (lc r.1)]:=Ch Tryz.func81 r λw S Z=>by
 refine Dt Z 6 [] r<|Fo (Bs ([]:List Op) ke34 kz129) λm=>Qs 1 r<|Nx<|Dt Z 4 [] r<|Cc Z [1] [100] zy r r2 λJ K _=>Qs 2 r<|Nx<|Jn Value [0] [] (λ_ X=>[(3,X)]) (λT X=>[.box U1 82 [U0,iv T.1,iv T.2.1],.own X (lc T.2.2)]) r2 r2 (?_) λL a=>?_
 ·refine Wb<|Lp Value [0] [] (λT X=>[(3,X),(4,iv T.2.2.1)]) (λT X=>[.box U1 82 [U0,iv T.1,iv T.2.1],.own X (lc T.2.2.2)]) (.slice (some ⟨m,0,none⟩) 0 0) [0,0] r2 r2 λN n=>Dw Z 6 [] r<|Wc r (λo=>?_) λo=>?_
  ·refine Sn<|Dt Z 5 [] r<|Cc Z [0] [100] zsJ r r2 λd O _=>Yo (Bd kp129 kz129 (Pc r (Cp r)<|Pz) r)<|Fo (Al kz129 r) λp=>Fu (Sb 0 kk129 r (Cp r) r)<|Nx<|Dt Z 4 [] r<|Cc Z [1] [100] zbr r r2 λQ R _=>Nx<|Jn Unit [0,3,4,5] [2] (λ_ _=>[]) (λT _=>[.box U1 82 [U0,iv T.1,iv T.2.1],.box p 129 [strV d.1,.bool T.2.2.1,strV T.2.2.2]]) r2 r2 (Wc r (λq=>Dt Z 2 [0] r<|Fu (Sb 1 kk4 r (Cp r) r)<|Nl<|Jg () [2,0,0]) λq=>Rg<|Qs 1 r<|Cc Z [0] [100] zge r r2 λU V _=>Dv Z 1 [0] r<|Fu (Sb 1 kk9 r (Cp r) r)<|Nl<|Jg () [2,0,0]) λe W=>?_
   exact Ne<|Dt Z 3 [2] r<|Fo (Bs [(⟨d.1,e.2.2.1,e.2.2.2⟩:Op)] ke34 kz129) λaa=>Bi λab s=>Fo (Ap [1] s ke34 kz129 r (Oc 0 r)) λt=>Qs 1 r<|Nl<|Bn<|Ne<|Rg<|Qs 3 r<|Nl<|Lg t [2,0]
  exact We<|Jg n [0,0]
 refine Ne<|Dt Z 4 [] r<|Cc Z [0] [100] zbr r r2 λac ad _=>Nx<|Jn Value [] [] (λ_ X=>[(3,X)]) (λT X=>[.box U1 82 [U0,iv T.1,iv T.2.1],.own X (lc T.2.2)]) r2 r2 (?_) λae u=>?_
 ·refine Wc r (λv=>?_) λv=>?_
  ·refine Dt Z 5 [1] r<|Cc Z [0] [100] zy r r2 λaf ag _=>Qs 1 r<|Nx<|Sr<|Qs 1 r<|Cc Z [0] [100] zy r r2 λah ai _=>Nx<|Dw Z 6 [] r<|Jn Value [] [] (λ_ X=>[(3,X)]) (λT X=>[.box U1 82 [U0,iv T.1,iv T.2.1],.own X (lc T.2.2)]) r2 r2 (?_) λaj x=>?_
   ·refine Wc r (λy=>?_) λy=>?_
    ·exact Rg<|Qs 3 r<|Fo (Bs ([[],[97,97,97,97,97,97,97,97,97,97],[97,97,97,97,97,97,97,97,97,97,97]]:List (List UInt8)) ke93 kz9) λak=>Cc Z [1] [100,0] zcQ r r2 λz al _=>Bi λf g=>Vv (Kx Z (Xc g<|Xz)) 2 [2,0,3,0,0] r<|Fu (Se (⟨z.1,f.P,f.M⟩:Op) 2 kk9 g r (Cp r) r)<|Nl<|Jg a [0,1]
    refine Dw Z 5 [] r<|Jn Value [] [] (λ_ X=>[(3,X)]) (λT X=>[.box U1 82 [U0,iv T.1,iv T.2.1],.own X (lc T.2.2)]) r2 r2 (?_) λam A=>?_
    ·refine Wc r (λB=>Rg<|Qs 3 r<|Cc Z [0] [100] zge r r2 λan ao _=>Bi λC D=>Yo (Y.cat D r r)<|Bi λk l=>Vv (Kx Z (Xc l<|Xz)) 2 [1,0,2,0,0] r<|Fu (Se (⟨k.j,k.P,C⟩:Op) 1 kk9 l r (Cp r) r)<|Nl<|Jg a [0,0]) λB=>Dw Z 5 [] r<|Jn Value [] [0] (λ_ X=>[(3,X)]) (λT X=>[.own X (lc T)]) r2 r2 (Wc r (λE=>Rg<|Qs 2 r<|Bi λap F=>Fo (Ap [1] F ke34 kz129 r (Oc 1 r)) λG=>Qs 1 r<|Nl<|Jg G [1,0]) λE=>Rg<|Fo (Bs ([]:List Op) ke34 kz129) λH=>Qs 1 r<|Nl<|Jg (.slice (some ⟨H,0,none⟩) 0 0) [1,0]) λaq I=>?_
     exact Jg I [0,0]
    exact Jg A [0,0]
   exact Bn<|Jg x [0,0]
  exact Sk<|Jg a [0,0]
 exact Ne<|Dw Z 5 [] r<|Wr<|Re u [0,0]
def zgf (c:Am):Option (List Op × Am):=Bb (zbl c 8) λd=>if d.1=true then Bb (zhD (⟨c.b,d.2.i,d.2.h⟩:Am)) λg=>some (g.1,(⟨c.b,g.2.i,g.2.h⟩:Am))else Bb (zB (⟨c.b,d.2.i,d.2.h⟩:Am) (2:Int)) λj=>bindC (loopO (λ(a:Int × Int × Int × List Op)=>if Dc (a.2.2.1>0)then Bb (zb7 (⟨c.b,a.1,a.2.1⟩:Am) ([[97],[98],[97,98],[99],[100]])) λk=>Bb (zbl (⟨c.b,k.2.i,k.2.h⟩:Am) (4:Int)) λe=>bindC (if e.1=true then some (.go (e.2.i,e.2.h,true,[]))else Bb (zdM (⟨c.b,e.2.i,e.2.h⟩:Am) (3:Int)) λl=>some (.go (l.2.i,l.2.h,false,l.1))) (λ(f:Int × Int × Bool × List UInt8)=>Bb (app 40 a.2.2.2 ([(⟨k.1,f.2.2.1,f.2.2.2⟩:Op)])) λn=>some (.go (f.1,f.2.1,I6.wrap (a.2.2.1 - 1),n)))else some (.done (.go (a.1,a.2.1,a.2.2.2)))) (j.2.i,j.2.h,I6.wrap ((1:Int)+j.1),([]:List Op))) (λ(m:Int × Int × List Op)=>some (m.2.2,(⟨c.b,m.1,m.2.1⟩:Am)))
def zps:Cn Pg 41 [pt U1] [.box U1 82 [U0,iv c.i,iv c.h]] [(U0,lc c.b)] (zgf c) (λ_ (X:Value)=>X) λr X=>[.box U1 82 [U0,iv r.2.i,iv r.2.h],.own X (lc r.1)]:=Ch Tryz.func41 r λw S Z=>by
 refine Dt Z 8 [] r<|Cc Z [0] [100] zbr r r2 λq s _=>Nx<|Wc r (λe=>Sr<|Qs 1 r<|Cc Z [0] [100] zqw r r2 λt u f=>Qs 1 r<|Nx<|Wv<|Re f [0,0]) λe=>Sn<|Sr<|Fo (Bs ([]:List Op) ke34 kz129) λg=>Qs 1 r<|Nx<|Dt Z 4 [] r<|Cc Z [1] [100] zy r r2 λv x _=>Qs 2 r<|Nx<|Jn Value [] [] (λ_ X=>[(3,X)]) (λT X=>[.box U1 82 [U0,iv T.1,iv T.2.1],.own X (lc T.2.2)]) r2 r2 (?_) λy j=>?_
 ·refine Wb<|Lp Value [0] [] (λT X=>[(3,X),(4,iv T.2.2.1)]) (λT X=>[.box U1 82 [U0,iv T.1,iv T.2.1],.own X (lc T.2.2.2)]) (.slice (some ⟨g,0,none⟩) 0 0) [0,0] r2 r2 λz k=>Dw Z 6 [] r<|Wc r (λl=>?_) λl=>?_
  ·refine Sn<|Dt Z 5 [] r<|Fo (Bs ([[97],[98],[97,98],[99],[100]]:List (List UInt8)) ke93 kz9) λA=>Cc Z [1] [100,0] zcQ r r2 λa B _=>Yo (Bd kp129 kz129 (Pc r (Cp r)<|Pz) r)<|Fo (Al kz129 r) λm=>Fu (Sb 0 kk129 r (Cp r) r)<|Nx<|Dt Z 4 [] r<|Cc Z [1] [100] zbr r r2 λC D _=>Nx<|Jn Unit [0,3,4,5] [3] (λ_ _=>[]) (λT _=>[.box U1 82 [U0,iv T.1,iv T.2.1],.box m 129 [strV a.1,.bool T.2.2.1,strV T.2.2.2]]) r2 r2 (Wc r (λn=>Dt Z 2 [0] r<|Fu (Sb 1 kk4 r (Cp r) r)<|Nl<|Jg () [3,0,0]) λn=>Rg<|Qs 1 r<|Cc Z [0] [100] zge r r2 λE F _=>Dv Z 1 [0] r<|Fu (Sb 1 kk9 r (Cp r) r)<|Nl<|Jg () [3,0,0]) λd G=>?_
   exact Ne<|Dt Z 3 [2] r<|Fo (Bs [(⟨a.1,d.2.2.1,d.2.2.2⟩:Op)] ke34 kz129) λH=>Bi λI o=>Fo (Ap [1] o ke34 kz129 r (Oc 0 r)) λp=>Qs 1 r<|Nl<|Bn<|Ne<|Rg<|Qs 3 r<|Nl<|Lg p [2,0]
  exact We<|Jg k [0,0]
 exact Ne<|Dw Z 5 [] r<|Wr<|Re j [0,0]
def zhw (c:Am) (s:List UInt8):Option (List UInt8 × Am):=if Dc ((s.length:Int)=0)then Bb (zdM c 3) λe=>some (e.1,(⟨c.b,e.2.i,e.2.h⟩:Am))else Bb (zB c (s.length:Int)) λd=>Bb (zB (⟨c.b,d.2.i,d.2.h⟩:Am) (4:Int)) λa=>if Dc (a.1=0)then Bb (ssub s 0 d.1) λj=>Bb (ssub s (I6.wrap (d.1+1)) (s.length:Int)) λk=>Bb (cat j k) λl=>some (l,(⟨c.b,a.2.i,a.2.h⟩:Am))else if Dc (a.1=1)then Bb (ssub s 0 d.1) λm=>Bb (ssub s d.1 (s.length:Int)) λn=>Bb (zbT (⟨c.b,a.2.i,a.2.h⟩:Am)) λf=>Bb (cat m ([toU8 f.1])) λo=>Bb (cat o n) λp=>some (p,(⟨c.b,f.2.i,f.2.h⟩:Am))else if Dc (a.1=2)then Bb (ssub s 0 d.1) λq=>some (q,(⟨c.b,a.2.i,a.2.h⟩:Am))else Bb (ssub s 0 d.1) λt=>Bb (sidx s d.1) λu=>Bb (ssub s (I6.wrap (d.1+1)) (s.length:Int)) λv=>Bb (zB (⟨c.b,a.2.i,a.2.h⟩:Am) (255:Int)) λg=>Bb (cat t ([toU8 (ixor .i64 (I6.wrap (u.toNat:Int)) (I6.wrap ((1:Int)+g.1)))])) λw=>Bb (cat w v) λx=>some (x,(⟨c.b,g.2.i,g.2.h⟩:Am))
def zqq {s:List UInt8} :Cn Pg 42 [pt U1,strV s] [.box U1 82 [U0,iv c.i,iv c.h]] [(U0,lc c.b)] (zhw c s) (λr (_:Unit)=>strV r.1) λr _=>[.box U1 82 [U0,iv r.2.i,iv r.2.h]]:=Ch Tryz.func42 r λw S Z=>by
 refine Dt Z 8 [] r<|Yo (Y.slen ks9 r)<|Qs 1 r<|Nx<|Wc r (λa=>Sr<|Qs 1 r<|Cc Z [0] [100] zge r r2 λD E _=>Qs 1 r<|Nx<|Wv<|Re () [0]) λa=>Sn<|Sr<|Qs 2 r<|Yo (Y.slen ks9 r)<|Cc Z [0] [100] zy r r2 λF G _=>Qs 1 r<|Nx<|Dt Z 4 [] r<|Cc Z [0] [100] zy r r2 λH I _=>Nx<|Dw Z 6 [] r<|Wc r (λd=>Sq<|Dz 1 [] [] r hMix<|Aq [0,1] r<|Ai λJ e=>Ay 2 r (Y.ssub_to e ks9 r r)<|Aq [3,4,5] r<|Ai λK f=>Ay 6 r (Y.ssub_from f ks9 r r)<|Ai λL g=>Ay 7 r (Y.cat g r r)<|Aq [8] r<|Az<|Ne<|Wr<|Br<|Tr<|Re () [0]) λd=>?_
 refine Dw Z 5 [] r<|Wc r (λj=>?_) λj=>?_
 ·exact Sq<|Dr [0] [4] r hMix<|Aq [0,1] r<|Ai λM k=>Ay 2 r (Y.ssub_to k ks9 r r)<|Aq [3,9,10] r<|Ai λN l=>Ay 11 r (Y.ssub_from l ks9 r r)<|Ai λm n=>A1 4<|Xe r (Cl [0] zcP n r r1 ⟨(Bc Z.1),⟨⟩⟩) λ_=>Ay 5 r (Y.conv8 ki3 ki5 r)<|A1 6<|Xe r (Bs [toU8 m.1] ke22 kz5) λO=>A1 7<|Xy r (Y.toStr ke22 ki5 ks9 (Oc 0 r) r)<|Ai λP o=>Ay 8 r (Y.cat o r r)<|Ai λQ p=>Ay 12 r (Y.cat p r r)<|Aq [13] r<|Az<|Ne<|Wr<|Br<|Tr<|Re () [1]
 refine Dw Z 5 [] r<|Wc r (λq=>Sr<|Qs 2 r<|Bi λR t=>Yo (Y.ssub_to t ks9 r r)<|Qs 1 r<|Nx<|Wr<|Br<|Tr<|Re () [0]) λq=>Sk<|Bn<|Ne<|Sq<|Dr [0] [8] r hMix<|Aq [0,1] r<|Ai λT u=>Ay 2 r (Y.ssub_to u ks9 r r)<|Aq [3,4] r<|Ai λv x=>Ay 5 r (Y.sidx x ks9 r r)<|Ay 6 r (Y.conv ki5 ki3 r)<|Aq [7,15,16,17] r<|Ai λU y=>Ay 18 r (Y.ssub_from y ks9 r r)<|Ai λz A=>A1 8<|Xe r (Cl [0] zy A r r1 ⟨(Bc Z.1),⟨⟩⟩) λ_=>Aq [9,10] r<|Ay 11 r (Y.conv8 ki3 ki5 r)<|A1 12<|Xe r (Bs [toU8 (ixor .i64 (I6.wrap (v.toNat:Int)) (I6.wrap ((1:Int)+z.1)))] ke22 kz5) λV=>?_
 exact A1 13<|Xy r (Y.toStr ke22 ki5 ks9 (Oc 0 r) r)<|Ai λW B=>Ay 14 r (Y.cat B r r)<|Ai λX C=>Ay 19 r (Y.cat C r r)<|Aq [20] r<|Az<|Ne<|Wr<|Re () [1]
def zfk (c:Am) (secret:List UInt8):Option (Ao × Am):=Bb (zB c 3) λv=>Bb (zbt (⟨c.b,v.2.i,v.2.h⟩:Am) ([(0:Int),(0:Int),(0:Int),(0:Int),(0:Int),(1:Int)])) λw=>Bb (zcs secret (I6.wrap ((1:Int)+v.1)) w.1) λO=>Bb (zB (⟨c.b,w.2.i,w.2.h⟩:Am) (24:Int)) λa=>bindC (if Dc (a.1=0)then some (.go (Dc (a.1=0)))else some (.go (Dc (a.1=1)))) (λ(P:Bool)=>bindC (if P=true then Bb (zbt (⟨c.b,a.2.i,a.2.h⟩:Am) ([(40:Int),(40:Int),(20:Int),(0:Int),(41:Int)])) λx=>Bb (zB (⟨c.b,x.2.i,x.2.h⟩:Am) (250:Int)) λy=>Bb (zcB (toU8 y.1)) λQ=>some (.go (y.2.i,y.2.h,(1:Int),x.1,Q,[],([]:List Op)))else bindC (if Dc (a.1=2)then Bb (zbt (⟨c.b,a.2.i,a.2.h⟩:Am) ([(40:Int),(10:Int),(30:Int),(-1:Int),(41:Int)])) λz=>some (.go (z.2.i,z.2.h,(2:Int),z.1,[],[],([]:List Op)))else bindC (if Dc (a.1=3)then Bb (zbl (⟨c.b,a.2.i,a.2.h⟩:Am) (2:Int)) λA=>bindC (if A.1=true then some (.go (3:Int))else some (.go (5:Int))) (λ(R:Int)=>some (.go (A.2.i,A.2.h,R,(0:Int),[],[],([]:List Op))))else bindC (if Dc (a.1=4)then Bb (zbl (⟨c.b,a.2.i,a.2.h⟩:Am) (4:Int)) λB=>bindC (if B.1=true then some (.go (4:Int))else some (.go (5:Int))) (λ(S:Int)=>some (.go (B.2.i,B.2.h,S,(0:Int),[],[],([]:List Op))))else bindC (if Dc (a.1=5)then some (.go (Dc (a.1=5)))else bindC (if Dc (a.1=6)then some (.go (Dc (a.1=6)))else some (.go (Dc (a.1=7)))) (λ(T:Bool)=>some (.go T))) (λ(U:Bool)=>bindC (if U=true then Bb (zb7 (⟨c.b,a.2.i,a.2.h⟩:Am) ([[97],[98],[97,98],[99],[100],[122,122]])) λC=>some (.go (C.2.i,C.2.h,(6:Int),(0:Int),C.1,[],([]:List Op)))else bindC (if Dc (a.1=8)then some (.go (Dc (a.1=8)))else some (.go (Dc (a.1=9)))) (λ(V:Bool)=>bindC (if V=true then Bb (zb7 (⟨c.b,a.2.i,a.2.h⟩:Am) ([[],[97],[98]])) λD=>Bb (zb7 (⟨c.b,D.2.i,D.2.h⟩:Am) ([[],[99],[98]])) λE=>some (.go (E.2.i,E.2.h,(7:Int),(0:Int),D.1,E.1,([]:List Op)))else bindC (if Dc (a.1=10)then some (.go (a.2.i,a.2.h,(8:Int),(0:Int),[],([]:List Op)))else bindC (if Dc (a.1=11)then Bb (zB (⟨c.b,a.2.i,a.2.h⟩:Am) (5:Int)) λF=>some (.go (F.2.i,F.2.h,(9:Int),F.1,[],([]:List Op)))else bindC (if Dc (a.1=12)then some (.go (Dc (a.1=12)))else some (.go (Dc (a.1=13)))) (λ(W:Bool)=>bindC (if W=true then Bb (zB (⟨c.b,a.2.i,a.2.h⟩:Am) (5:Int)) λG=>Bb (zb7 (⟨c.b,G.2.i,G.2.h⟩:Am) ([[97],[98],[97,98],[99]])) λH=>some (.go (H.2.i,H.2.h,(10:Int),G.1,H.1,([]:List Op)))else bindC (if Dc (a.1=14)then some (.go (a.2.i,a.2.h,(11:Int),(0:Int),([]:List Op)))else bindC (if Dc (a.1=15)then some (.go (a.2.i,a.2.h,(12:Int),(0:Int),([]:List Op)))else bindC (if Dc (a.1=16)then some (.go (a.2.i,a.2.h,(13:Int),(0:Int),([]:List Op)))else bindC (if Dc (a.1=17)then Bb (zbt (⟨c.b,a.2.i,a.2.h⟩:Am) ([(0:Int),(0:Int),(1:Int),(2:Int),(9:Int),(-1:Int)])) λI=>some (.go (I.2.i,I.2.h,(14:Int),I.1,([]:List Op)))else Bb (zgf (⟨c.b,a.2.i,a.2.h⟩:Am)) λJ=>some (.go (J.2.i,J.2.h,(5:Int),(0:Int),J.1))) (λ(o:Int × Int × Int × Int × List Op)=>some (.go (o.1,o.2.1,o.2.2.1,o.2.2.2.1,o.2.2.2.2)))) (λ(p:Int × Int × Int × Int × List Op)=>some (.go (p.1,p.2.1,p.2.2.1,p.2.2.2.1,p.2.2.2.2)))) (λ(q:Int × Int × Int × Int × List Op)=>some (.go (q.1,q.2.1,q.2.2.1,q.2.2.2.1,q.2.2.2.2)))) (λ(s:Int × Int × Int × Int × List Op)=>some (.go (s.1,s.2.1,s.2.2.1,s.2.2.2.1,[],s.2.2.2.2)))) (λ(l:Int × Int × Int × Int × List UInt8 × List Op)=>some (.go (l.1,l.2.1,l.2.2.1,l.2.2.2.1,l.2.2.2.2.1,l.2.2.2.2.2))))) (λ(m:Int × Int × Int × Int × List UInt8 × List Op)=>some (.go (m.1,m.2.1,m.2.2.1,m.2.2.2.1,m.2.2.2.2.1,m.2.2.2.2.2)))) (λ(n:Int × Int × Int × Int × List UInt8 × List Op)=>some (.go (n.1,n.2.1,n.2.2.1,n.2.2.2.1,n.2.2.2.2.1,[],n.2.2.2.2.2)))) (λ(d:Int × Int × Int × Int × List UInt8 × List UInt8 × List Op)=>some (.go (d.1,d.2.1,d.2.2.1,d.2.2.2.1,d.2.2.2.2.1,d.2.2.2.2.2.1,d.2.2.2.2.2.2))))) (λ(e:Int × Int × Int × Int × List UInt8 × List UInt8 × List Op)=>some (.go (e.1,e.2.1,e.2.2.1,e.2.2.2.1,e.2.2.2.2.1,e.2.2.2.2.2.1,e.2.2.2.2.2.2))))) (λ(f:Int × Int × Int × Int × List UInt8 × List UInt8 × List Op)=>some (.go (f.1,f.2.1,f.2.2.1,f.2.2.2.1,f.2.2.2.2.1,f.2.2.2.2.2.1,f.2.2.2.2.2.2)))) (λ(g:Int × Int × Int × Int × List UInt8 × List UInt8 × List Op)=>some (.go (g.1,g.2.1,g.2.2.1,g.2.2.2.1,g.2.2.2.2.1,g.2.2.2.2.2.1,g.2.2.2.2.2.2)))) (λ(j:Int × Int × Int × Int × List UInt8 × List UInt8 × List Op)=>some (.go (j.1,j.2.1,j.2.2.1,j.2.2.2.1,j.2.2.2.2.1,j.2.2.2.2.2.1,j.2.2.2.2.2.2)))) (λ(k:Int × Int × Int × Int × List UInt8 × List UInt8 × List Op)=>Bb (zbl (⟨c.b,k.1,k.2.1⟩:Am) (30:Int)) λt=>bindC (if t.1=true then Bb (zbt (⟨c.b,t.2.i,t.2.h⟩:Am) ([(0:Int),(15:Int)])) λK=>some (.go (K.2.i,K.2.h,K.1))else some (.go (t.2.i,t.2.h,k.2.2.1))) (λ(L:Int × Int × Int)=>Bb (zbl (⟨c.b,L.1,L.2.1⟩:Am) (25:Int)) λu=>bindC (if u.1=true then Bb (zhw (⟨c.b,u.2.i,u.2.h⟩:Am) O) λM=>some (.go (M.1,M.2.i,M.2.h))else some (.go (O,u.2.i,u.2.h))) (λ(N:List UInt8 × Int × Int)=>some ((⟨L.2.2,N.1,I6.wrap ((1:Int)+v.1),k.2.2.2.1,k.2.2.2.2.1,k.2.2.2.2.2.1,k.2.2.2.2.2.2⟩:Ao),(⟨c.b,N.2.1,N.2.2⟩:Am))))))
def zkZ:Cn Pg 14 [pt U1,strV secret] [.box U1 82 [U0,iv c.i,iv c.h]] [(U0,lc c.b)] (zfk c secret) (λr (X:Value)=>.agg #[iv r.1.E,strV r.1.Q,iv r.1.s,iv r.1.N,strV r.1.j,strV r.1.W,X]) λr X=>[.box U1 82 [U0,iv r.2.i,iv r.2.h],.own X (lc r.1.R)]:=Ch Tryz.func14 r λw S Z=>by
 refine Sr<|Fo (Al kz36 r) λB1=>Nx<|Sr<|Qs 1 r<|Cc Z [1] [100] zy r r2 λa H3 _=>Qs 2 r<|Nx<|Sr<|Qs 3 r<|Fo (Bs [(0:Int),(0:Int),(0:Int),(0:Int),(0:Int),(1:Int)] ke60 kz3) λB5=>Cc Z [1] [100,0] zbZ r r2 λR6 H7 _=>Cc Z [] [] zex r r2 λe ah _=>Qs 1 r<|Yo (Bd kp36 kz36 (Pc r (Cp r)<|Pc r (Cp r)<|Pc r (Cp r)<|Pz) r)<|Fo (Al kz36 r) λd=>Fu (Sb 0 kk36 r (Cp r) r)<|Nx<|Dt Z 4 [] r<|Cc Z [1] [100] zy r r2 λai aj _=>Nx<|Dw Z 7 [] r<|Jn Unit [0,4,6,19] [0,2,0] (λT _=>[(23,.bool T)]) (λ_ _=>[]) r2 r2 (Wc r (λk=>Sk<|Jg () [0,2,0]) λk=>Rg<|Qs 2 r<|Nl<|Jg () [0,2,0]) λak al=>?_
 refine Ne<|Jn Value [0,4,6] [1] (λ_ _=>[]) (λT X=>[.box U1 82 [U0,iv T.1,iv T.2.1],.box d 36 [iv T.2.2.1,strV e,iv (I6.wrap ((1:Int)+a.1)),iv T.2.2.2.1,strV T.2.2.2.2.1,strV T.2.2.2.2.2.1,X],.own X (lc T.2.2.2.2.2.2)]) r2 r2 (?_) λf g=>?_
 ·refine Wc r (λl=>?_) λl=>?_
  ·exact Dt Z 3 [0] r<|Fu (Sb 2 kk3 r (Cp r) r)<|Nx<|Sr<|Qs 1 r<|Fo (Bs [(40:Int),(40:Int),(20:Int),(0:Int),(41:Int)] ke60 kz3) λam=>Cc Z [1] [100,0] zbZ r r2 λan ao _=>Dv Z 1 [0] r<|Fu (Sb 3 kk3 r (Cp r) r)<|Nx<|Rg<|Qs 1 r<|Cc Z [0] [100] zy r r2 λap aq _=>Yo (Y.conv8 ki3 ki5 r)<|Cc Z [] [] zeg r r2 λar au _=>Dv Z 1 [0] r<|Fu (Sb 3 kk9 r (Cp r) r)<|Nl<|Ni 3<|Jg (.slice none 0 0) [3,1,2,0]
  refine Dw Z 5 [] r<|Jn Value [0,4,6] [1] (λ_ _=>[]) (λT X=>[.box U1 82 [U0,iv T.1,iv T.2.1],.box d 36 [iv T.2.2.1,strV e,iv (I6.wrap ((1:Int)+a.1)),iv T.2.2.2.1,strV T.2.2.2.2.1,strV T.2.2.2.2.2.1,X],.own X (lc T.2.2.2.2.2.2)]) r2 r2 (?_) λav m=>?_
  ·refine Wc r (λn=>?_) λn=>?_
   ·exact Dt Z 3 [0] r<|Fu (Sb 2 kk3 r (Cp r) r)<|Nx<|Rg<|Qs 1 r<|Fo (Bs [(40:Int),(10:Int),(30:Int),(-1:Int),(41:Int)] ke60 kz3) λaw=>Cc Z [1] [100,0] zbZ r r2 λax ay _=>Dv Z 1 [0] r<|Fu (Sb 3 kk3 r (Cp r) r)<|Nl<|Ni 3<|Jg (.slice none 0 0) [3,1,2,0]
   refine Dw Z 5 [] r<|Jn Value [0,4,6] [1] (λ_ _=>[]) (λT X=>[.box U1 82 [U0,iv T.1,iv T.2.1],.box d 36 [iv T.2.2.1,strV e,iv (I6.wrap ((1:Int)+a.1)),iv T.2.2.2.1,strV T.2.2.2.2.1,strV T.2.2.2.2.2.1,X],.own X (lc T.2.2.2.2.2.2)]) r2 r2 (?_) λaz o=>?_
   ·refine Wc r (λp=>?_) λp=>?_
    ·exact Sr<|Qs 1 r<|Cc Z [0] [100] zbr r r2 λaA aB _=>Nx<|Jn Unit [0,4,6] [0,0] (λ_ _=>[]) (λT _=>[.box d 36 [iv T,strV e,iv (I6.wrap ((1:Int)+a.1)),iv 0,strV ([]),strV ([]),.slice none 0 0]]) r2 r2 (Wc r (λq=>Dt Z 2 [0] r<|Fu (Sb 2 kk3 r (Cp r) r)<|Nl<|Jg () [0,0,0]) λq=>Sk<|Jg () [0,0,0]) λaC aD=>Ni 3<|Jg (.slice none 0 0) [2,1,1,0]
    refine Dw Z 5 [] r<|Jn Value [0,4,6] [1] (λ_ _=>[]) (λT X=>[.box U1 82 [U0,iv T.1,iv T.2.1],.box d 36 [iv T.2.2.1,strV e,iv (I6.wrap ((1:Int)+a.1)),iv T.2.2.2.1,strV T.2.2.2.2.1,strV T.2.2.2.2.2.1,X],.own X (lc T.2.2.2.2.2.2)]) r2 r2 (?_) λaE t=>?_
    ·refine Wc r (λu=>?_) λu=>?_
     ·exact Sr<|Qs 1 r<|Cc Z [0] [100] zbr r r2 λaF aG _=>Nx<|Jn Unit [0,4,6] [0,0] (λ_ _=>[]) (λT _=>[.box d 36 [iv T,strV e,iv (I6.wrap ((1:Int)+a.1)),iv 0,strV ([]),strV ([]),.slice none 0 0]]) r2 r2 (Wc r (λv=>Dt Z 2 [0] r<|Fu (Sb 2 kk3 r (Cp r) r)<|Nl<|Jg () [0,0,0]) λv=>Sk<|Jg () [0,0,0]) λaH aI=>Ni 3<|Jg (.slice none 0 0) [2,1,1,0]
     refine Dw Z 6 [] r<|Ju [0,4,6,19] (λT=>[(53,.bool T)]) r1 (Wc r (λx=>Sk<|Jg () [0,0,0]) λx=>Dw Z 5 [] r<|Ju [0,4,6,19] (λT=>[(53,.bool T)]) r1 (Wc r (λy=>Sk<|Jg () [0,0,0]) λy=>Rg<|Qs 2 r<|Nl<|Jg () [0,0,0]) λaJ=>Jg () [0,0,0]) λaK=>Ne<|Jn Value [0,4,6] [1] (λ_ _=>[]) (λT X=>[.box U1 82 [U0,iv T.1,iv T.2.1],.box d 36 [iv T.2.2.1,strV e,iv (I6.wrap ((1:Int)+a.1)),iv T.2.2.2.1,strV T.2.2.2.2.1,strV T.2.2.2.2.2.1,X],.own X (lc T.2.2.2.2.2.2)]) r2 r2 (?_) λaL z=>?_
     ·refine Wc r (λA=>?_) λA=>?_
      ·exact Dt Z 3 [0] r<|Fu (Sb 2 kk3 r (Cp r) r)<|Nx<|Rg<|Qs 1 r<|Fo (Bs ([[97],[98],[97,98],[99],[100],[122,122]]:List (List UInt8)) ke93 kz9) λaM=>Cc Z [1] [100,0] zcQ r r2 λaN aO _=>Dv Z 1 [0] r<|Fu (Sb 3 kk9 r (Cp r) r)<|Nl<|Ni 3<|Jg (.slice none 0 0) [3,1,2,0]
      refine Dw Z 6 [] r<|Ju [0,4,6,19] (λT=>[(62,.bool T)]) r1 (Wc r (λB=>Sk<|Jg () [0,0,0]) λB=>Rg<|Qs 2 r<|Nl<|Jg () [0,0,0]) λaP=>Ne<|Jn Value [0,4,6] [1] (λ_ _=>[]) (λT X=>[.box U1 82 [U0,iv T.1,iv T.2.1],.box d 36 [iv T.2.2.1,strV e,iv (I6.wrap ((1:Int)+a.1)),iv T.2.2.2.1,strV T.2.2.2.2.1,strV T.2.2.2.2.2.1,X],.own X (lc T.2.2.2.2.2.2)]) r2 r2 (?_) λaQ C=>?_
      ·refine Wc r (λD=>?_) λD=>?_
       ·exact Dt Z 3 [0] r<|Fu (Sb 2 kk3 r (Cp r) r)<|Nx<|Sr<|Qs 1 r<|Fo (Bs ([[],[97],[98]]:List (List UInt8)) ke93 kz9) λaR=>Cc Z [1] [100,0] zcQ r r2 λaS aT _=>Dv Z 1 [0] r<|Fu (Sb 3 kk9 r (Cp r) r)<|Nx<|Rg<|Qs 1 r<|Fo (Bs ([[],[99],[98]]:List (List UInt8)) ke93 kz9) λaU=>Cc Z [1] [100,0] zcQ r r2 λaV aW _=>Dv Z 1 [0] r<|Fu (Sb 4 kk9 r (Cp r) r)<|Nl<|Ni 3<|Jg (.slice none 0 0) [4,1,3,0]
       refine Dw Z 5 [] r<|Jn Value [0,4,6] [1] (λ_ _=>[]) (λT X=>[.box U1 82 [U0,iv T.1,iv T.2.1],.box d 36 [iv T.2.2.1,strV e,iv (I6.wrap ((1:Int)+a.1)),iv T.2.2.2.1,strV T.2.2.2.2.1,strV ([]),X],.own X (lc T.2.2.2.2.2)]) r2 r2 (?_) λaX F=>?_
       ·refine Wc r (λG=>Dt Z 2 [0] r<|Fu (Sb 2 kk3 r (Cp r) r)<|Nl<|Ni 3<|Jg (.slice none 0 0) [2,1,1,0]) λG=>Dw Z 5 [] r<|Jn Value [0,4,6] [1] (λ_ _=>[]) (λT X=>[.box U1 82 [U0,iv T.1,iv T.2.1],.box d 36 [iv T.2.2.1,strV e,iv (I6.wrap ((1:Int)+a.1)),iv T.2.2.2.1,strV T.2.2.2.2.1,strV ([]),X],.own X (lc T.2.2.2.2.2)]) r2 r2 (?_) λaY H=>?_
        ·refine Wc r (λI=>Dt Z 3 [0] r<|Fu (Sb 2 kk3 r (Cp r) r)<|Nx<|Rg<|Qs 1 r<|Cc Z [0] [100] zy r r2 λaZ a0 _=>Dv Z 1 [0] r<|Fu (Sb 2 kk3 r (Cp r) r)<|Nl<|Ni 3<|Jg (.slice none 0 0) [2,1,1,0]) λI=>Dw Z 6 [] r<|Ju [0,4,6,19] (λT=>[(83,.bool T)]) r1 (Wc r (λJ=>Sk<|Jg () [0,0,0]) λJ=>Rg<|Qs 2 r<|Nl<|Jg () [0,0,0]) λa1=>Ne<|Jn Value [0,4,6] [1] (λ_ _=>[]) (λT X=>[.box U1 82 [U0,iv T.1,iv T.2.1],.box d 36 [iv T.2.2.1,strV e,iv (I6.wrap ((1:Int)+a.1)),iv T.2.2.2.1,strV T.2.2.2.2.1,strV ([]),X],.own X (lc T.2.2.2.2.2)]) r2 r2 (?_) λa2 K=>?_
         ·refine Wc r (λL=>?_) λL=>?_
          ·exact Dt Z 3 [0] r<|Fu (Sb 2 kk3 r (Cp r) r)<|Nx<|Sr<|Qs 1 r<|Cc Z [0] [100] zy r r2 λa3 a4 _=>Dv Z 1 [0] r<|Fu (Sb 2 kk3 r (Cp r) r)<|Nx<|Rg<|Qs 1 r<|Fo (Bs ([[97],[98],[97,98],[99]]:List (List UInt8)) ke93 kz9) λa5=>Cc Z [1] [100,0] zcQ r r2 λa6 a7 _=>Dv Z 1 [0] r<|Fu (Sb 3 kk9 r (Cp r) r)<|Nl<|Ni 3<|Jg (.slice none 0 0) [3,1,2,0]
          refine Dw Z 5 [] r<|Jn Value [0,4,6] [1] (λ_ _=>[]) (λT X=>[.box U1 82 [U0,iv T.1,iv T.2.1],.box d 36 [iv T.2.2.1,strV e,iv (I6.wrap ((1:Int)+a.1)),iv T.2.2.2.1,strV ([]),strV ([]),X],.own X (lc T.2.2.2.2)]) r2 r2 (?_) λa8 M=>?_
          ·refine Wc r (λO=>Dt Z 2 [0] r<|Fu (Sb 2 kk3 r (Cp r) r)<|Nl<|Ni 3<|Jg (.slice none 0 0) [2,1,1,0]) λO=>Dw Z 5 [] r<|Jn Value [0,4,6] [1] (λ_ _=>[]) (λT X=>[.box U1 82 [U0,iv T.1,iv T.2.1],.box d 36 [iv T.2.2.1,strV e,iv (I6.wrap ((1:Int)+a.1)),iv T.2.2.2.1,strV ([]),strV ([]),X],.own X (lc T.2.2.2.2)]) r2 r2 (?_) λa9 P=>?_
           ·refine Wc r (λU=>Dt Z 2 [0] r<|Fu (Sb 2 kk3 r (Cp r) r)<|Nl<|Ni 3<|Jg (.slice none 0 0) [2,1,1,0]) λU=>Dw Z 5 [] r<|Jn Value [0,4,6] [1] (λ_ _=>[]) (λT X=>[.box U1 82 [U0,iv T.1,iv T.2.1],.box d 36 [iv T.2.2.1,strV e,iv (I6.wrap ((1:Int)+a.1)),iv T.2.2.2.1,strV ([]),strV ([]),X],.own X (lc T.2.2.2.2)]) r2 r2 (?_) λba V=>?_
            ·refine Wc r (λaa=>Dt Z 2 [0] r<|Fu (Sb 2 kk3 r (Cp r) r)<|Nl<|Ni 3<|Jg (.slice none 0 0) [2,1,1,0]) λaa=>Dw Z 5 [] r<|Jn Value [0,4,6] [1] (λ_ _=>[]) (λT X=>[.box U1 82 [U0,iv T.1,iv T.2.1],.box d 36 [iv T.2.2.1,strV e,iv (I6.wrap ((1:Int)+a.1)),iv T.2.2.2.1,strV ([]),strV ([]),X],.own X (lc T.2.2.2.2)]) r2 r2 (?_) λbb ab=>?_
             ·refine Wc r (λac=>?_) λac=>?_
              ·exact Dt Z 3 [0] r<|Fu (Sb 2 kk3 r (Cp r) r)<|Nx<|Rg<|Qs 1 r<|Fo (Bs [(0:Int),(0:Int),(1:Int),(2:Int),(9:Int),(-1:Int)] ke60 kz3) λbc=>Cc Z [1] [100,0] zbZ r r2 λbd bf _=>Dv Z 1 [0] r<|Fu (Sb 3 kk3 r (Cp r) r)<|Nl<|Ni 3<|Jg (.slice none 0 0) [3,1,2,0]
              exact Rg<|Qs 1 r<|Cc Z [0] [100] zps r r2 λbg bh ad=>Dv Z 1 [0] r<|Fu (Sb 3 kk34 r (Co 1) r)<|Nl<|Jg ad [2,0,1,0]
             exact Jg ab [0,0,0,0]
            exact Jg V [0,0,0,0]
           exact Jg P [0,0,0,0]
          exact Jg M [0,0,0,0]
         exact Jg K [0,0,0,0]
        exact Jg H [0,0,0,0]
       exact Jg F [0,0,0,0]
      exact Jg C [0,0,0,0]
     exact Jg z [0,0,0,0]
    exact Jg t [0,0,0,0]
   exact Jg o [0,0,0,0]
  exact Jg m [0,0,0,0]
 refine Bn<|Ne<|Dt Z 4 [] r<|Cc Z [1] [100] zbr r r2 λbi bj _=>Nx<|Jn Unit [0,4,6] [1,2] (λ_ _=>[]) (λT _=>[.box U1 82 [U0,iv T.1,iv T.2.1],.box d 36 [iv T.2.2,strV e,iv (I6.wrap ((1:Int)+a.1)),iv f.2.2.2.1,strV f.2.2.2.2.1,strV f.2.2.2.2.2.1,g]]) r2 r2 (Wc r (λae=>Rg<|Qs 1 r<|Fo (Bs [(0:Int),(15:Int)] ke60 kz3) λbk=>Cc Z [1] [100,0] zbZ r r2 λbl bm _=>Dv Z 1 [0] r<|Fu (Sb 3 kk3 r (Cp r) r)<|Nl<|Jg () [2,3,0,1]) λae=>Sk<|Jg () [1,2,0,0]) λaf bn=>?_
 refine Ne<|Dt Z 4 [] r<|Cc Z [2] [100] zbr r r2 λbo bp _=>Nx<|Jn Unit [4,6] [1,1] (λ_ _=>[]) (λT _=>[.box d 36 [iv af.2.2,strV T.1,iv (I6.wrap ((1:Int)+a.1)),iv f.2.2.2.1,strV f.2.2.2.2.1,strV f.2.2.2.2.2.1,g],.box U1 82 [U0,iv T.2.1,iv T.2.2]]) r2 r2 (Wc r (λag=>Dt Z 4 [0,3] r<|Cc Z [0] [100] zqq r r2 λbq br _=>Dv Z 1 [0] r<|Fu (Sb 3 kk9 r (Cp r) r)<|Nl<|Jg () [1,1,1,0]) λag=>Sk<|Jg () [1,1,1,0]) λbs bt=>?_
 exact Ne<|Dt Z 3 [2] r<|Fu (Sb 0 kk36 r (Ca ⟨Op',Op',Op',Op',Op',Op',Ow' 1,⟨⟩⟩) r)<|Nx<|Wr<|Rj g [3,1] [0] r
def zgg (c:Am) (secret:List UInt8) (most:Int):Option (List Ao × Am):=bindC (loopO (λ(a:Int × Int × Int × List Ao)=>if Dc (a.2.2.1<=2)then Bb (zbl (⟨c.b,a.1,a.2.1⟩:Am) (8:Int)) λg=>bindC (if !g.1 then Bb (zcB (toU8 a.2.2.1)) λp=>Bb (app 96 a.2.2.2 ([(⟨1,[],a.2.2.1,40,p,[],[]⟩:Ao)])) λq=>some (.go q)else some (.go a.2.2.2)) (λ(s:List Ao)=>some (.go (g.2.i,g.2.h,I6.wrap (a.2.2.1+1),s)))else some (.done (.go (a.1,a.2.1,a.2.2.2)))) (c.i,c.h,(1:Int),([]:List Ao))) (λ(j:Int × Int × List Ao)=>Bb (zB (⟨c.b,j.1,j.2.1⟩:Am) most) λk=>bindC (loopO (λ(d:Int × Int × Int × List Ao)=>if Dc (d.2.2.1>0)then Bb (zfk (⟨c.b,d.1,d.2.1⟩:Am) secret) λl=>Bb (app 96 d.2.2.2 ([l.1])) λt=>some (.go (l.2.i,l.2.h,I6.wrap (d.2.2.1 - 1),t))else some (.done (.go (d.1,d.2.1,d.2.2.2)))) (k.2.i,k.2.h,k.1,j.2.2)) (λ(f:Int × Int × List Ao)=>Bb (zbl (⟨c.b,f.1,f.2.1⟩:Am) (60:Int)) λe=>bindC (if e.1=true then Bb (zB (⟨c.b,e.2.i,e.2.h⟩:Am) (2:Int)) λm=>bindC (loopO (λ(n:List Ao)=>if Dc ((n.length:Int)<I6.wrap ((120:Int)+m.1))then Bb (app 96 n ([(⟨12,[],0,0,[],[],[]⟩:Ao)])) λu=>some (.go u)else some (.done (.go n))) f.2.2) (λ(v:List Ao)=>some (.go (m.2.i,m.2.h,v)))else some (.go (e.2.i,e.2.h,f.2.2))) (λ(o:Int × Int × List Ao)=>some (o.2.2,(⟨c.b,o.1,o.2.1⟩:Am)))))
def zpt:Cn Pg 36 [pt U1,strV secret,iv most] [.box U1 82 [U0,iv c.i,iv c.h]] [(U0,lc c.b)] (zgg c secret most) (λ_ (X:Value)=>X) λr X=>[.box U1 82 [U0,iv r.2.i,iv r.2.h],.own X (lc r.1)]:=Ch Tryz.func36 r λw S Z=>by
 refine Dt Z 6 [] r<|Fo (Bk [] ke87 kz36 r (Qz)) λk=>Kt (Ha [0] ([]:List Ao) r Cz)<|Qs 1 r<|Nx<|Dw Z 5 [] r<|Jn Value [0,1,2] [] (λ_ X=>[(7,X)]) (λT X=>[.box U1 82 [U0,iv T.1,iv T.2.1],.own X (lc T.2.2)]) r2 r2 (?_) λH l=>?_
 ·refine Wb<|Lp Value [0,1,2] [] (λT X=>[(7,X),(8,iv T.2.2.1)]) (λT X=>[.box U1 82 [U0,iv T.1,iv T.2.1],.own X (lc T.2.2.2)]) (.slice (some ⟨k,0,none⟩) 0 0) [1,0] r2 r2 λd e=>Dw Z 6 [] r<|Wc r (λm=>?_) λm=>?_
  ·refine Sn<|Dt Z 5 [] r<|Cc Z [0] [100] zbr r r2 λI J _=>Qs 1 r<|Nx<|Jn Value [0,1,2,8] [0] (λ_ X=>[(7,X)]) (λT X=>[.own X (lc T)]) r2 r2 (?_) λK n=>?_
   ·refine Wc r (λo=>?_) λo=>?_
    ·refine Rg<|Qs 3 r<|Yo (Y.conv8 ki3 ki5 r)<|Cc Z [] [] zeg r r2 λf L _=>Yo (Bd kp36 kz36 (Pc r (Cp r)<|Pc r (Cp r)<|Pc r (Cp r)<|Pc r (Cp r)<|Pz) r)<|Fo (Bk [ic 1,.str ([]),ic d.2.2.1,ic 40,.str f,.str ([]),.raw (.slice none 0 0)] ke87 kz36 r (Qc (Cp r)<|Qz)) λM=>No 3<|Kt (Ha [1,0] ([(⟨1,[],d.2.2.1,40,f,[],[]⟩:Ao)]:List Ao) r (Ck (Ck (Ck (Ck (Ck (Ck (Cf Cz))))))))<|Bi λO p=>?_
     exact Fo (Aw [2,0] p ke87 kz36 r) λq=>Qs 1 r<|Nl<|Jg q [1,0]
    exact Sk<|Jg e [0,0]
   exact Bn<|Ne<|Rg<|Qs 3 r<|Nl<|Lg n [0,0]
  exact We<|Jg e [0,0]
 refine Ne<|Dt Z 5 [] r<|Cc Z [0] [100] zy r r2 λP R _=>Qs 1 r<|Nx<|Jn Value [0] [] (λ_ X=>[(7,X)]) (λT X=>[.box U1 82 [U0,iv T.1,iv T.2.1],.own X (lc T.2.2)]) r2 r2 (?_) λU g=>?_
 ·refine Wb<|Lp Value [0,1] [] (λT X=>[(7,X),(9,iv T.2.2.1)]) (λT X=>[.box U1 82 [U0,iv T.1,iv T.2.1],.own X (lc T.2.2.2)]) l [0,0] r2 r2 λV t=>Dw Z 6 [] r<|Wc r (λu=>?_) λu=>?_
  ·exact Sn<|Dt Z 6 [] r<|Cc Z [0] [100] zkZ r r2 λa aa v=>Fo (Bk [ic a.1.E,.str a.1.Q,ic a.1.s,ic a.1.N,.str a.1.j,.str a.1.W,.raw v] ke87 kz36 r (Qc (Ca ⟨Op',Op',Op',Op',Op',Op',Ow' 1,⟨⟩⟩)<|Qz)) λab=>Kt (Ha [0,1] ([a.1]:List Ao) r (Ck (Ck (Ck (Ck (Ck (Ck (Cf Cz))))))))<|Bi λac x=>Fo (Aw [2,0] x ke87 kz36 r) λy=>Qs 1 r<|Nl<|Bn<|Ne<|Rg<|Qs 3 r<|Nl<|Lg y [1,0]
  exact We<|Jg t [0,0]
 refine Ne<|Dt Z 4 [] r<|Cc Z [0] [100] zbr r r2 λad ae _=>Nx<|Jn Value [] [] (λ_ X=>[(7,X)]) (λT X=>[.box U1 82 [U0,iv T.1,iv T.2.1],.own X (lc T.2.2)]) r2 r2 (?_) λaf z=>?_
 ·refine Wc r (λA=>?_) λA=>?_
  ·refine Sr<|Qs 1 r<|Cc Z [0] [100] zy r r2 λag ah _=>Qs 2 r<|Nx<|Jn Value [] [0] (λ_ X=>[(7,X)]) (λT X=>[.own X (lc T)]) r2 r2 (?_) λai B=>?_
   ·refine Wb<|Lp Value [10] [0] (λ_ X=>[(7,X)]) (λT X=>[.own X (lc T)]) g [0,0] r2 r2 λaj C=>Dw Z 8 [1] r<|Wc r (λD=>?_) λD=>?_
    ·exact Sn<|Dt Z 3 [] r<|Yo (Bd kp36 kz36 (Pc r (Cp r)<|Pz) r)<|Fo (Bk [ic 12,.str ([]),ic 0,ic 0,.str ([]),.str ([]),.raw (.slice none 0 0)] ke87 kz36 r (Qc (Cp r)<|Qz)) λak=>No 3<|Kt (Ha [1,0] ([(⟨12,[],0,0,[],[],[]⟩:Ao)]:List Ao) r (Ck (Ck (Ck (Ck (Ck (Ck (Cf Cz))))))))<|Bi λal F=>Fo (Aw [2,0] F ke87 kz36 r) λG=>Qs 1 r<|Nl<|Bn<|Lg G [1,0]
    exact We<|Jg C [0,0]
   exact Jg B [0,0]
  exact Sk<|Jg g [0,0]
 exact Ne<|Dw Z 5 [] r<|Wr<|Re z [0,0]
def zgd (secret h:List UInt8) (size:Int):Option (Ae × Bool):=Bb (if !(Dc ((secret.length:Int)=32))then some true else if !(Dc ((h.length:Int)=32))then some true else Bb (zt size 0 1000) λa=>some (!a)) (λ(b:Bool)=>if b=true then some ((⟨[],⟨[],[],0⟩,⟨0,[]⟩,[],[],[],0⟩:Ae),false)else some ((⟨secret,⟨h,[],0⟩,⟨size,[]⟩,[],[],[],0⟩:Ae),true))
def zpr {B:List UInt8} {size:Int} :Cn Pg 76 [strV secret,strV B,iv size] [] [] (zgd secret B size) (λr (X:Value × Value × Value × Value × Value)=>.tuple #[.agg #[strV r.1.F,strV r.1.m.K,X.1,iv r.1.m.H,iv r.1.C.I,X.2.1,X.2.2.1,X.2.2.2.1,X.2.2.2.2,iv r.1.A],.bool r.2]) λr X=>[.own X.1 (lc r.1.m.D),.own X.2.1 (lc r.1.C.r),.own X.2.2.1 (lc r.1.a),.own X.2.2.2.1 (lc r.1.u),.own X.2.2.2.2 (lc r.1.L)]:=Ch Tryz.func76 r λw S Z=>by
 refine Sr<|Fo (Al kz33 r) λf=>Qs 1 r<|Nx<|Sq<|Sq<|Jv [0,1,2,6] (λT=>[(20,.bool T)]) r1 (?_) λg=>?_
 ·exact Rg<|Qs 1 r<|Yo (Y.slen ks9 r)<|Qs 2 r<|It (λc=>Vv (Kg Z (Gc c<|Gz)) 5 [0,0,0,0] r<|Of 3 r r r<|Yo (Pt r r)<|Nl<|Bg () [0]) λc=>Qg 1 (zf c) r r<|Yg (gdA (zf c)) (Y.slen ks9 r)<|Vv (Kg Z (Gc c<|Gz)) 3 [0,0] r<|It (λb=>Of 3 (zh b) r r<|Yo (Pt b r)<|Nl<|Bg () [0]) λb=>Qg 1 (zf b) r r<|Bi λh d=>Fg (gdA (zf b)) (Cl [] zq d r r1) λ_=>Vv (Kg Z (Gc b<|Gz)) 2 [0,0] r<|Nl<|Bg () [0]
 exact Ne<|Wc r (λe=>Sr<|Yo (Bd kp33 kz33 (Pz) r)<|Fu (Sb 0 kk33 r (Cp r) r)<|Qs 1 r<|Nx<|Wv<|Ni 2<|Ni 2<|Ni 7<|Ni 5<|Ni 5<|Rj ((.slice none 0 0),(.slice none 0 0),(.slice none 0 0),(.slice none 0 0),(.slice none 0 0)) [4,3,2,1,0] [5] r) λe=>Sn<|Sr<|Qs 2 r<|Yo (Bd kp26 kz26 (Pc r (Cp r)<|Pz) r)<|Qs 1 r<|Yo (Bd kp29 kz29 (Pc r (Cp r)<|Pz) r)<|Yo (Bd kp33 kz33 (Pc r (Cp r)<|Pc r (Cp r)<|Pc r (Cp r)<|Pz) r)<|Fu (Sb 0 kk33 r (Cp r) r)<|Qs 1 r<|Nx<|Wr<|Ni 2<|Ni 2<|Ni 7<|Ni 5<|Ni 5<|Rj ((.slice none 0 0),(.slice none 0 0),(.slice none 0 0),(.slice none 0 0),(.slice none 0 0)) [4,3,2,1,0] [5] r
def zcX (l:List Af) (id:Int):Option Int:=bindC (loopO (λ(a:Int)=>if Dc (a<(l.length:Int))then Bb (idx l a) λb=>if Dc (b.q=id)then some (.done (.done a))else some (.go (I6.wrap (a+1)))else some (.done (.go ()))) (0:Int)) (λ(c:Unit)=>some (-1:Int))
def zhy {l:List Af} {id:Int} :Cn Pg 31 [U0,iv id] [] [(U0,lc l)] (zcX l id) (λr (_:Unit)=>iv r) λ_ _=>[]:=Ch Tryz.func31 r λw S Z=>by
 refine Dw Z 9 [] r<|Ju [] (λ_=>[]) r1 (?_) λd=>?_
 ·exact Wb<|Lu [0,1] (λT=>[(5,iv T)]) r1 λe=>Dw Z 8 [100] r<|Wc r (λa=>Sn<|Dt Z 6 [] r<|Bi λf b=>Vv (Kx Z (Xc b<|Xz)) 5 [100,0,101,0,0,300,0,0] r<|Nx<|Wc r (λc=>Dw Z 5 [] r<|Wr<|Bu<|Rq) λc=>Sk<|Bn<|Ne<|Rg<|Qs 3 r<|Nl<|Lq) λa=>We<|Jq
 exact Ne<|Dw Z 4 [] r<|Wr<|Rq
def zD (code:Int):Option Ar:=some (⟨code,0,[],[]⟩:Ar)
def zz {code:Int} :Cn Pg 20 [iv code] [] [] (zD code) (λr (X:Value)=>.agg #[iv r.T,iv r.N,strV r.O,X]) λr X=>[.own X (lc r.r)]:=Ch Tryz.func20 r λw S Z=>Sr<|Fo (Al kz41 r) λa=>Nx<|Sr<|Qs 1 r<|Yo (Bd kp41 kz41 (Pc r (Cp r)<|Pz) r)<|Fu (Sb 0 kk41 r (Cp r) r)<|Nx<|Wr<|Ni 2<|Rj (.slice none 0 0) [0] [1] r
def zfi (h:Int):Option Int:=Bb (zt h 0 1000) λa=>if !a then some (0:Int)else some (I6.wrap ((2:Int)+(I6.wrap ((2:Int)*(I6.wrap (Ba (I6.wrap (h+49)) 50))))))
def ztk {h:Int} :Cn Pg 125 [iv h] [] [] (zfi h) (λr (_:Unit)=>iv r) λ_ _=>[]:=Ch Tryz.func125 r λw S Z=>Dt Z 8 [] r<|Cc Z [] [] zq r r2 λb c _=>Qs 1 r<|Nx<|Wc r (λa=>Dw Z 4 [] r<|Wv<|Rq) λa=>Sn<|Sr<|Qs 2 r<|Yo (Y.quo (by decide) r r)<|Qs 3 r<|Nx<|Wr<|Rq
def zh8 (s:Ad):Option Int:=bindC (loopO (λ(a:Int × Int)=>if Dc (a.2<(s.r.length:Int))then Bb (idx s.r a.2) λc=>Bb (zfi c.S) λd=>some (.go (I6.wrap (a.1+d),I6.wrap (a.2+1)))else some (.done (.go a.1))) ((0:Int),(0:Int))) (λ(b:Int)=>bindC (if Dc ((s.r.length:Int)>0)then some (.go (I6.wrap (b+4)))else some (.go b)) (λ(e:Int)=>some e))
def zrL {s:Ad} :Cn Pg 65 [.agg #[iv s.I,U0]] [] [(U0,lc s.r)] (zh8 s) (λr (_:Unit)=>iv r) λ_ _=>[]:=Ch Tryz.func65 r λw S Z=>by
 refine Sr<|Fo (Bx r (Ca ⟨Op',Ob Z.1,⟨⟩⟩)) λd=>Qs 1 r<|Nx<|Dw Z 9 [] r<|Ju [1] (λT=>[(3,iv T)]) r1 (?_) λe=>?_
 ·exact Wb<|Lu [1] (λT=>[(3,iv T.1),(4,iv T.2)]) r1 λf=>Dw Z 9 [0,0,100] r<|Wc r (λa=>Sn<|Dt Z 7 [0,0] r<|Bi λg b=>Vv (Kx Z (Xc b<|Xz)) 3 [100,0,101,0,0,300,0,1] r<|Cc Z [] [] ztk r r2 λh i _=>Qs 2 r<|Nl<|Bn<|Ne<|Rg<|Qs 3 r<|Nl<|Lg () [0]) λa=>We<|Jg () [0]
 exact Ne<|Dw Z 8 [0,0,100] r<|Jn Unit [] [] (λT _=>[(3,iv T)]) (λ_ _=>[]) r2 r2 (Wc r (λc=>Rg<|Qs 3 r<|Nl<|Jq) λc=>Sk<|Jq) λj k=>Ne<|Dw Z 5 [] r<|Wr<|Rq
def zbG (s:Ad):Option Bool:=Bb (Bb (zt s.I 0 1000) λc=>if !c then some true else some (Dc ((s.r.length:Int)>4))) (λ(d:Bool)=>if d=true then some false else bindC (loopO (λ(a:Int)=>if Dc (a<(s.r.length:Int))then Bb (idx s.r a) λb=>Bb (Bb (zt b.s 1 99) λe=>if !e then some true else Bb (zt b.S 0 1000) λf=>if !f then some true else if Dc (a>0)then Bb (idx s.r (I6.wrap (a - 1))) λg=>some (Dc (g.s>=b.s))else some false) (λ(h:Bool)=>if h=true then some (.done (.done false))else some (.go (I6.wrap (a+1))))else some (.done (.go ()))) (0:Int)) (λ(j:Unit)=>Bb (zh8 s) λi=>some (Dc (i<=s.I))))
def zeZ {s:Ad} :Cn Pg 27 [.agg #[iv s.I,U0]] [] [(U0,lc s.r)] (zbG s) (λr (_:Unit)=>.bool r) λ_ _=>[]:=Ch Tryz.func27 r λw S Z=>by
 refine Sr<|Fo (Bx r (Ca ⟨Op',Ob Z.1,⟨⟩⟩)) λm=>Qs 1 r<|Nx<|Sq<|Sq<|Jv [1] (λT=>[(14,.bool T)]) r1 (Dt Z 3 [0,0] r<|Cc Z [] [] zq r r2 λn o _=>Qs 2 r<|It (λc=>Of 4 (zh c) r r<|Yo (Pt c r)<|Nl<|Bg () [0]) λc=>Vv (Kg Z (Gc c<|Gz)) 5 [0,0,0,0,0,100,0,0] r<|Nl<|Bg () [0]) λp=>Ne<|Wc r (λe=>Dw Z 4 [] r<|Wv<|Rq) λe=>Sn<|Dw Z 5 [] r<|Ju [1] (λ_=>[]) r1 (?_) λq=>?_
 ·refine Wb<|Lu [1] (λT=>[(3,iv T)]) r1 λt=>Dw Z 9 [0,0,100] r<|Wc r (λf=>?_) λf=>?_
  ·refine Sn<|Dt Z 7 [0,0] r<|Bi λu g=>Vv (Kx Z (Xc g<|Xz)) 2 [100,0,300,0,0] r<|Fo (Al kz67 r) λv=>Fu (Sb 0 kk67 r (Cp r) r)<|Nx<|Sq<|Jb Unit [1,3] [1] (λT _=>[(52,.bool T)]) (λ_ _=>[]) r2 r2 (?_) λx y=>?_
   ·refine Dz 2 [] [] r hMix<|Aj Z [0,1] [] [0,0] r<|Ai λz h=>A1 2<|Xe r (Cl [] zq h r r1) λ_=>Aq [3,4] r<|Ia (λb=>Ak (Kg Z (Gc b<|Gz)) [5,6,7,8,9,10] [] [0,0,0,0,0] r<|Ax [11,12,13] r r r<|Au [14,15,16,17,18,19,20,21,22,23] r r<|Ax [24] r r r<|Ay 25 r (Pt r r)<|Az<|Bg () [1]) λb=>Ak (Kg Z (Gc b<|Gz)) [5,6] [] [0,0,0,0] r<|Ai λA i=>A1 7<|Xeg (gdA (zf b)) r (Cl [] zq i r r1) λ_=>Ak (Kg Z (Gc b<|Gz)) [8,9,10] [] [0,0] r<|Ia (λa=>Ax [11,12,13] (zh a) r r<|Au [14,15,16,17,18,19,20,21,22,23] r r<|Ak (Kg Z (Gc a<|Gz)) [24,25] [] [0,0] r<|Az<|Bg () [1]) λa=>?_
    exact Ak (Kg Z (Gc a<|Gz)) [11,12,13] [] [0,0,0] r<|Ia (λd=>Ak (Kg Z (Gc d<|Gz)) [14,15,16,17] [] [0,0,0,1,0,0] r<|Ai λB j=>Ak (Kk Z (Xc j<|Xz) (Gc d<|Gc a<|Gz)) [18,19,20,21,22,23,24,25] [] [0,100,0,0,101,0,0,0,300,0,0,0,0,0,0,0,1,0,1] r<|Az<|Bg () [1]) λd=>Ak (Kg Z (Gc d<|Gc a<|Gz)) [14,15,16,17,18,19,20,21,22,23,24,25] [] [0,0,0,0,0,0,0,0,0,0,1,0,1] r<|Az<|Bg () [1]
   exact Ne<|Wc r (λk=>Dw Z 4 [] r<|Wr<|Bu<|Rq) λk=>Sk<|Bn<|Ne<|Rg<|Qs 3 r<|Nl<|Lg () [0]
  exact We<|Jg () [0]
 exact Ne<|Sq<|Dz 1 [] [] r hMix<|Aj Z [0,2,3] [] [0,0,0] r<|Ai λC l=>A1 1<|Xe r (Cl [] zrL l r r1 ⟨(Bc Z.1),⟨⟩⟩) λ_=>Aq [4,5] r<|Az<|Ne<|Wr<|Rq
def zef (s:Ad):Option Ad:=Bb (app 16 ([]:List As) s.r) λa=>some (⟨s.I,a⟩:Ad)
def zhT {s:Ad} :Cn Pg 61 [.agg #[iv s.I,U0]] [] [(U0,lc s.r)] (zef s) (λr (X:Value)=>.agg #[iv r.I,X]) λr X=>[.own X (lc r.r)]:=Ch Tryz.func61 r λw S Z=>Sr<|Fo (Bx r (Ca ⟨Op',Ob Z.1,⟨⟩⟩)) λc=>Fo (Al kz29 r) λd=>Nx<|Sq<|Dz 2 [] [7] r hMix<|Aj Z [0,1,3,4] [] [0,0,0,0] r<|A1 2<|Xe r (Bs ([]:List As) ke27 kz67) λe=>Ai λf a=>A1 5<|Xe r (Ap [0] a ke27 kz67 r (Bc Z.1)) λb=>A1 6<|Xy r (Bd kp29 kz29 (Pc r (Cp r)<|Pc r (Co 0)<|Pz) r)<|A1 7<|Xu r (Sb 1 kk29 r (Ca ⟨Op',Ow' 0,⟨⟩⟩) r)<|Az<|Ne<|Wr<|Rj b [0] [1] r
end Go.Proofs.YtmenicbkddagmaaGreat
end
end
section
open Option renaming bind->Bb
open Decidable renaming decide->Dc
noncomputable section
open Go.Proofs.Tryz renaming prog->Pg
open Go.IntKind renaming i64->I6
namespace Go.Proofs.YtmenicbkddagmaaGreat
open Go Sl
variable {U0 U1 U2 U3 U4:Value} {l:List Ac} {s key:List UInt8} {tenant at_:Int} {d:At} {e:Aa}
def zbF (s:Ad) (tenant A:Int):Option (Ad × Bool):=Bb (zbG s) λf=>if !f then some ((⟨0,[]⟩:Ad),false)else bindC (loopO (λ(a:Bool × Int × List As)=>if Dc (a.2.1<(s.r.length:Int))then Bb (if !a.1 then Bb (idx s.r a.2.1) λg=>some (Dc (g.s>=tenant))else some false) (λ(h:Bool)=>bindC (if h=true then Bb (app 16 a.2.2 ([(⟨tenant,A⟩:As)])) λi=>some (.go (true,i))else some (.go (a.1,a.2.2))) (λ(b:Bool × List As)=>Bb (idx s.r a.2.1) λd=>bindC (if !(Dc (d.s=tenant))then Bb (app 16 b.2 ([d])) λj=>some (.go j)else some (.go b.2)) (λ(k:List As)=>some (.go (b.1,I6.wrap (a.2.1+1),k)))))else some (.done (.go (a.1,a.2.2)))) (false,(0:Int),([]:List As))) (λ(c:Bool × List As)=>bindC (if !c.1 then Bb (app 16 c.2 ([(⟨tenant,A⟩:As)])) λl=>some (.go l)else some (.go c.2)) (λ(e:List As)=>Bb (zbG (⟨s.I,e⟩:Ad)) λm=>if !m then Bb (zef s) λn=>some (n,false)else some ((⟨s.I,e⟩:Ad),true)))
def zke {s:Ad} {quota:Int} :Cn Pg 114 [.agg #[iv s.I,U0],iv tenant,iv quota] [] [(U0,lc s.r)] (zbF s tenant quota) (λr (X:Value)=>.tuple #[.agg #[iv r.1.I,X],.bool r.2]) λr X=>[.own X (lc r.1.r)]:=Ch Tryz.func114 r λw S Z=>by
 refine Sr<|Fo (Bx r (Ca ⟨Op',Ob Z.1,⟨⟩⟩)) λA=>Fo (Al kz29 r) λB=>Qs 1 r<|Nx<|Dt Z 4 [1] r<|Cc Z [] [100] zeZ r r2 λC D _=>Qs 1 r<|Nx<|Wc r (λe=>Sr<|Yo (Bd kp29 kz29 (Pz) r)<|Fu (Sb 0 kk29 r (Cp r) r)<|Qs 1 r<|Nx<|Wv<|Ni 2<|Rj (.slice none 0 0) [0] [1] r) λe=>Sn<|Dt Z 4 [0,1] r<|Yo (Bd kp29 kz29 (Pc r (Cp r)<|Pz) r)<|Fo (Al kz29 r) λa=>Fu (Sb 0 kk29 r (Cp r) r)<|Nx<|Dw Z 9 [] r<|Jn Value [1,2,3,6,8] [2,1] (λT _=>[(9,.bool T.1)]) (λT X=>[.box a 29 [iv s.I,X],.own X (lc T.2)]) r2 r2 (?_) λE f=>?_
 ·refine Wb<|Nw 2<|Lp Value [1,2,3,6,8] [3,2] (λT _=>[(9,.bool T.1),(10,iv T.2.1)]) (λT X=>[.box a 29 [iv s.I,X],.own X (lc T.2.2)]) (.slice none 0 0) [3,2,1,0] r2 r2 λF c=>Dw Z 9 [0,0,100] r<|Wc r (λg=>?_) λg=>?_
  ·refine Sn<|Dw Z 4 [] r<|Jv [1,2,3,6,8,9,10] (λT=>[(36,.bool T)]) r1 (Rg<|Qs 3 r<|It (λb=>Vv (Kg Z (Gc b<|Gz)) 3 [0,0,0,0,0] r<|Bi λG h=>Vv (Kk Z (Xc h<|Xz) (Gc b<|Gz)) 6 [0,100,0,0,101,0,0,0,300,0,0,0,0,0] r<|Nl<|Bg () [0,0,0,0]) λb=>Of 8 (zE b) r r<|Yo (Pf b r)<|Nl<|Bg () [0,0,0,0]) λH=>Ne<|Jn Value [1,2,3,6,8,10] [0,0] (λT _=>[(9,.bool T.1)]) (λT X=>[.box a 29 [iv s.I,X],.own X (lc T.2)]) r2 r2 (?_) λJ i=>?_
   ·refine Wc r (λj=>?_) λj=>?_
    ·exact Dt Z 6 [0,2] r<|Yo (Bd kp67 kz67 (Pc r (Cp r)<|Pc r (Cp r)<|Pz) r)<|Fo (Bs [(⟨tenant,quota⟩:As)] ke27 kz67) λK=>Bi λL k=>Fo (Ap [4] k ke27 kz67 r (Oc 0 r)) λl=>Dv Z 1 [0] r<|Fu (Sb 4 kk27 r (Co 0) r)<|Nx<|Rg<|Qs 1 r<|Nl<|Jg l [2,2,2,0]
    exact Sk<|Jg c [0,0,0,0]
   refine Ne<|Dt Z 5 [0,0] r<|Bi λm d=>Vv (Kx Z (Xc d<|Xz)) 5 [100,0,101,0,0,300,0,0] r<|Nx<|Jn Value [1,2,3,6,8,9,10] [0,0] (λ_ _=>[]) (λT X=>[.box a 29 [iv s.I,X],.own X (lc T)]) r2 r2 (?_) λM n=>?_
   ·refine Wc r (λo=>?_) λo=>?_
    ·exact Dz 4 [3,2] [8,10] r hMix<|Ak (Kx Z (Xc d<|Xz)) [0,1,2,3,4,5,6] [0,1792] [0,1,0,0,100,0,300,0,0] r<|A1 7<|Xe r (Bs [m] ke27 kz67) λN=>Ai λO p=>A1 8<|Xe r (Ap [1] p ke27 kz67 r (Oc 0 r)) λq=>Aj Z [9] [] [0] r<|A1 10<|Xu r (Sb 2 kk27 r (Co 0) r)<|Az<|Jg q [3,3,2,0]
    exact Sk<|Jg i [0,0,0,0]
   exact Bn<|Ne<|Rg<|Qs 3 r<|Nl<|Lg n [0,0,0,0]
  exact We<|Jg c [0,0,0,0]
 refine Ne<|Dw Z 6 [] r<|Jn Value [3,6,8] [0,0] (λ_ _=>[]) (λT X=>[.box a 29 [iv s.I,X],.own X (lc T)]) r2 r2 (?_) λP t=>?_
 ·refine Wc r (λu=>?_) λu=>?_
  ·exact Dt Z 5 [0,2] r<|Yo (Bd kp67 kz67 (Pc r (Cp r)<|Pc r (Cp r)<|Pz) r)<|Fo (Bs [(⟨tenant,quota⟩:As)] ke27 kz67) λQ=>Bi λR v=>Fo (Ap [4] v ke27 kz67 r (Oc 0 r)) λx=>Dv Z 1 [0] r<|Fu (Sb 4 kk27 r (Co 0) r)<|Nl<|Jg x [2,2,2,0]
  exact Sk<|Jg f [0,0,0,0]
 exact Ne<|Dt Z 4 [2] r<|Cc Z [] [3] zeZ r r2 λU V _=>Qs 1 r<|Nx<|Wc r (λy=>Dt Z 3 [0] r<|Cc Z [] [100] zhT r r2 λW Y z=>Fu (Sb 2 kk29 r (Ca ⟨Op',Ow' 0,⟨⟩⟩) r)<|Qs 1 r<|Nx<|Wv<|Rj z [0] [2] r) λy=>Sn<|Dt Z 3 [2] r<|Fu (Sb 1 kk29 r (Ca ⟨Op',Ow' 3,⟨⟩⟩) r)<|Qs 1 r<|Nx<|Wr<|Rj t [3] [1] r
def zbg (d:At):Option Bool:=Bb (if !(Dc ((d.K.length:Int)=32))then some true else if Dc ((d.D.length:Int)>4)then some true else Bb (zt d.H 0 1000000) λc=>some (!c)) (λ(e:Bool)=>if e=true then some false else bindC (loopO (λ(a:Int)=>if Dc (a<(d.D.length:Int))then Bb (idx d.D a) λb=>Bb (Bb (zt b.s 1 99) λf=>if !f then some true else if !(Dc ((b.j.length:Int)=32))then some true else if Dc (a>0)then Bb (idx d.D (I6.wrap (a - 1))) λg=>some (Dc (g.s>=b.s))else some false) (λ(h:Bool)=>if h=true then some (.done (.done false))else some (.go (I6.wrap (a+1))))else some (.done (.go ()))) (0:Int)) (λ(i:Unit)=>some true))
def zfh:Cn Pg 26 [.agg #[strV d.K,U0,iv d.H]] [] [(U0,lc d.D)] (zbg d) (λr (_:Unit)=>.bool r) λ_ _=>[]:=Ch Tryz.func26 r λw S Z=>by
 refine Sr<|Fo (Bx r (Ca ⟨Op',Ob Z.1,Op',⟨⟩⟩)) λn=>Qs 1 r<|Nx<|Sq<|Sq<|Jv [1] (λT=>[(20,.bool T)]) r1 (?_) λo=>?_
 ·exact Dt Z 3 [0,0] r<|Yo (Y.slen ks9 r)<|Qs 2 r<|It (λf=>Vv (Kg Z (Gc f<|Gz)) 6 [0,0,0,0,0] r<|Of 4 r r r<|Yo (Pt r r)<|Nl<|Bg () [0]) λf=>Vv (Kg Z (Gc f<|Gz)) 6 [0,0,0,0,0,100,0,0] r<|It (λa=>Of 4 (zh a) r r<|Yo (Pt a r)<|Nl<|Bg () [0]) λa=>Vv (Kg Z (Gc a<|Gz)) 2 [0,0,0,0] r<|Bi λp g=>Fg (gdA (zf a)) (Cl [] zq g r r1) λ_=>Vv (Kg Z (Gc a<|Gz)) 2 [0,0] r<|Nl<|Bg () [0]
 refine Ne<|Wc r (λh=>Dw Z 4 [] r<|Wv<|Rq) λh=>Sn<|Dw Z 5 [] r<|Jn Unit [] [] (λ_ _=>[]) (λ_ _=>[]) r2 r2 (?_) λq s=>?_
 ·refine Wb<|Lu [1] (λT=>[(3,iv T)]) r1 λt=>Dw Z 9 [0,0,100] r<|Wc r (λi=>?_) λi=>?_
  ·refine Sn<|Dt Z 7 [0,0] r<|Bi λu j=>Vv (Kx Z (Xc j<|Xz)) 2 [100,0,300,0,0] r<|Fo (Al kz72 r) λv=>Fu (Sb 0 kk72 r (Cp r) r)<|Nx<|Sq<|Jb Unit [1,3] [1] (λT _=>[(58,.bool T)]) (λ_ _=>[]) r2 r2 (?_) λx y=>?_
   ·refine Dz 2 [] [] r hMix<|Aj Z [0,1] [] [0,0] r<|Ai λz k=>A1 2<|Xe r (Cl [] zq k r r1) λ_=>Aq [3,4] r<|Ia (λc=>Ak (Kg Z (Gc c<|Gz)) [5,6,7,8,9,10] [] [0,0,0,0,0] r<|Ax [11,12,13] r r r<|Au [14,15,16,17,18,19,20,21,22,23] r r<|Ax [24] r r r<|Ay 25 r (Pt r r)<|Az<|Bg () [1]) λc=>Ak (Kg Z (Gc c<|Gz)) [5,6] [] [0,0,0,0] r<|Ag 7 0 (gdA (zf c)) r (Y.slen ks9 r)<|Ak (Kg Z (Gc c<|Gz)) [8,9,10] [] [0,0] r<|Ia (λb=>Ax [11,12,13] (zh b) r r<|Au [14,15,16,17,18,19,20,21,22,23] r r<|Ak (Kg Z (Gc b<|Gz)) [24,25] [] [0,0] r<|Az<|Bg () [1]) λb=>?_
    exact Ak (Kg Z (Gc b<|Gz)) [11,12,13] [] [0,0,0] r<|Ia (λe=>Ak (Kg Z (Gc e<|Gz)) [14,15,16,17] [] [0,0,0,1,0,0] r<|Ai λA l=>Ak (Kk Z (Xc l<|Xz) (Gc e<|Gc b<|Gz)) [18,19,20,21,22,23,24,25] [] [0,100,0,0,101,0,0,0,300,0,0,0,0,0,0,0,1,0,1] r<|Az<|Bg () [1]) λe=>Ak (Kg Z (Gc e<|Gc b<|Gz)) [14,15,16,17,18,19,20,21,22,23,24,25] [] [0,0,0,0,0,0,0,0,0,0,1,0,1] r<|Az<|Bg () [1]
   exact Ne<|Wc r (λm=>Dw Z 4 [] r<|Wr<|Bu<|Rq) λm=>Sk<|Bn<|Ne<|Rg<|Qs 3 r<|Nl<|Lg () [0]
  exact We<|Jq
 exact Ne<|Dw Z 4 [] r<|Wr<|Rq
def zeL (d:At):Option At:=Bb (app 24 ([]:List A5) d.D) λa=>some (⟨d.K,a,d.H⟩:At)
def zgm:Cn Pg 60 [.agg #[strV d.K,U0,iv d.H]] [] [(U0,lc d.D)] (zeL d) (λr (X:Value)=>.agg #[strV r.K,X,iv r.H]) λr X=>[.own X (lc r.D)]:=Ch Tryz.func60 r λw S Z=>Sr<|Fo (Bx r (Ca ⟨Op',Ob Z.1,Op',⟨⟩⟩)) λc=>Fo (Al kz26 r) λe=>Nx<|Sr<|Fo (Bs ([]:List A5) ke24 kz72) λf=>Dv Z 2 [0,2] r<|Bi λg a=>Fo (Ap [0] a ke24 kz72 r (Bc Z.1)) λb=>Dv Z 1 [0] r<|Fu (Sb 2 kk24 r (Co 0) r)<|Nx<|Dt Z 3 [2] r<|Fu (Sb 1 kk26 r (Ca ⟨Op',Ow' 0,Op',⟨⟩⟩) r)<|Nx<|Wr<|Rj b [0] [1] r
def zh5 (d:At) (tenant:Int) (key:List UInt8):Option (At × Bool):=Bb (zbg d) λg=>if !g then some ((⟨[],[],0⟩:At),false)else Bb (zeL d) λb=>bindC (loopO (λ(a:Bool × Int × List A5)=>if Dc (a.2.1<(d.D.length:Int))then Bb (if !a.1 then Bb (idx d.D a.2.1) λh=>some (Dc (h.s>=tenant))else some false) (λ(i:Bool)=>bindC (if i=true then Bb (app 24 a.2.2 ([(⟨tenant,key⟩:A5)])) λj=>some (.go (true,j))else some (.go (a.1,a.2.2))) (λ(e:Bool × List A5)=>Bb (idx d.D a.2.1) λk=>Bb (app 24 e.2 ([k])) λl=>some (.go (e.1,I6.wrap (a.2.1+1),l))))else some (.done (.go (a.1,a.2.2)))) (false,(0:Int),([]:List A5))) (λ(c:Bool × List A5)=>bindC (if !c.1 then Bb (app 24 c.2 ([(⟨tenant,key⟩:A5)])) λm=>some (.go m)else some (.go c.2)) (λ(f:List A5)=>Bb (zbg (⟨b.K,f,b.H⟩:At)) λn=>if !n then some (b,false)else some ((⟨b.K,f,b.H⟩:At),true)))
def zrI:Cn Pg 167 [.agg #[strV d.K,U0,iv d.H],iv tenant,strV key] [] [(U0,lc d.D)] (zh5 d tenant key) (λr (X:Value)=>.tuple #[.agg #[strV r.1.K,X,iv r.1.H],.bool r.2]) λr X=>[.own X (lc r.1.D)]:=Ch Tryz.func167 r λw S Z=>by
 refine Sr<|Fo (Bx r (Ca ⟨Op',Ob Z.1,Op',⟨⟩⟩)) λy=>Fo (Al kz26 r) λz=>Qs 1 r<|Nx<|Dt Z 4 [1] r<|Cc Z [] [100] zfh r r2 λA B _=>Qs 1 r<|Nx<|Wc r (λc=>Sr<|Yo (Bd kp26 kz26 (Pz) r)<|Fu (Sb 0 kk26 r (Cp r) r)<|Qs 1 r<|Nx<|Wv<|Ni 2<|Rj (.slice none 0 0) [0] [1] r) λc=>Sn<|Dt Z 3 [1] r<|Cc Z [] [100] zgm r r2 λC e E=>Fo (Al kz26 r) λF=>Fu (Sb 0 kk26 r (Ca ⟨Op',Ow' 1,Op',⟨⟩⟩) r)<|Nx<|Sr<|Fo (Bs ([]:List A5) ke24 kz72) λf=>Qs 1 r<|Nx<|Dw Z 9 [] r<|Jn Value [1,2,3,6,8] [4,3,1,1] (λT X=>[(9,X),(10,.bool T.1)]) (λT X=>[.own X (lc T.2)]) r2 r2 (?_) λG g=>?_
 ·refine Wb<|Lp Value [1,2,3,6,8] [4,3,1,1] (λT X=>[(9,X),(10,.bool T.1),(11,iv T.2.1)]) (λT X=>[.own X (lc T.2.2)]) (.slice (some ⟨f,0,none⟩) 0 0) [4,3,1,1,0] r2 r2 λI b=>Dw Z 9 [0,0,100] r<|Wc r (λh=>?_) λh=>?_
  ·refine Sn<|Dw Z 4 [] r<|Jv [1,2,3,6,8,9,10,11] (λT=>[(37,.bool T)]) r1 (Rg<|Qs 3 r<|It (λa=>Vv (Kg Z (Gc a<|Gz)) 3 [0,0,0,0,0] r<|Bi λJ i=>Vv (Kk Z (Xc i<|Xz) (Gc a<|Gz)) 6 [0,100,0,0,101,0,0,0,300,0,0,0,0,0] r<|Nl<|Bg () [0,0,0,0,0]) λa=>Of 8 (zE a) r r<|Yo (Pf a r)<|Nl<|Bg () [0,0,0,0,0]) λL=>Ne<|Jn Value [1,2,3,6,8,11] [0,0,0,0] (λT X=>[(9,X),(10,.bool T.1)]) (λT X=>[.own X (lc T.2)]) r2 r2 (?_) λM N=>?_
   ·exact Wc r (λj=>Sr<|Qs 3 r<|Yo (Bd kp72 kz72 (Pc r (Cp r)<|Pc r (Cp r)<|Pz) r)<|Fo (Bs [(⟨tenant,key⟩:A5)] ke24 kz72) λO=>Bi λP k=>Fo (Ap [5] k ke24 kz72 r (Oc 0 r)) λl=>Qs 1 r<|Nx<|Rg<|Qs 1 r<|Nl<|Jg l [2,2,2,2,0]) λj=>Sk<|Jg b [0,0,0,0,0]
   exact Ne<|Dt Z 5 [0,0] r<|Bi λm n=>Vv (Kx Z (Xc n<|Xz)) 2 [100,0,300,0,0] r<|Fo (Bs [m] ke24 kz72) λQ=>Bi λR o=>Fo (Ap [5] o ke24 kz72 r (Oc 0 r)) λp=>Qs 1 r<|Nl<|Bn<|Ne<|Rg<|Qs 3 r<|Nl<|Lg p [2,2,2,2,0]
  exact We<|Jg b [0,0,0,0,0]
 refine Ne<|Dw Z 6 [] r<|Jn Value [3,6,8] [0,0,0,0] (λ_ X=>[(9,X)]) (λT X=>[.own X (lc T)]) r2 r2 (?_) λU q=>?_
 ·exact Wc r (λs=>Rg<|Qs 3 r<|Yo (Bd kp72 kz72 (Pc r (Cp r)<|Pc r (Cp r)<|Pz) r)<|Fo (Bs [(⟨tenant,key⟩:A5)] ke24 kz72) λV=>Bi λW t=>Fo (Ap [5] t ke24 kz72 r (Oc 0 r)) λu=>Qs 1 r<|Nl<|Jg u [2,2,2,2,0]) λs=>Sk<|Jg g [0,0,0,0,0]
 exact Ne<|Dt Z 4 [0] r<|Fu (Sb 2 kk24 r (Co 4) r)<|Nx<|Dt Z 4 [2] r<|Cc Z [] [4] zfh r r2 λY aa _=>Qs 1 r<|Nx<|Wc r (λv=>Dt Z 3 [0] r<|Fo (Cl [] zgm e r r1 ⟨(Bc Z.1),⟨⟩⟩) λx=>Fu (Sb 2 kk26 r (Ca ⟨Op',Ow' 0,Op',⟨⟩⟩) r)<|Qs 1 r<|Nx<|Wv<|Rj x [0] [2] r) λv=>Sn<|Dt Z 3 [2] r<|Fu (Sb 1 kk26 r (Ca ⟨Op',Ow' 4,Op',⟨⟩⟩) r)<|Qs 1 r<|Nx<|Wr<|Rj q [4] [1] r
def zia (l:List Af) (t:Af):Option (List Af):=bindC (loopO (λ(a:Bool × Int × List (Option Af) × Option (List Ac) × Option (List (List Ac)) × Option (List Int) × List Af)=>if Dc (a.2.1<(a.2.2.1.length:Int))then Bb (if !a.1 then Bb (idx a.2.2.1 a.2.1) λf=>Bb (f) λh=>some (Dc (h.q>t.q),a.2.2.2.1,a.2.2.2.2.1,a.2.2.2.2.2.1)else some (false,a.2.2.2.1,a.2.2.2.2.1,a.2.2.2.2.2.1)) (λ(b:Bool × Option (List Ac) × Option (List (List Ac)) × Option (List Int))=>bindC (if b.1=true then Bb (b.2.1) λi=>Bb (b.2.2.1) λj=>Bb (b.2.2.2) λk=>Bb (app 104 a.2.2.2.2.2.2 ([(⟨t.q,t.J,t.G,⟨i,j,t.g.c,k⟩⟩:Af)])) λm=>some (.go (true,none,none,none,m))else some (.go (a.1,b.2.1,b.2.2.1,b.2.2.2,a.2.2.2.2.2.2))) (λ(e:Bool × Option (List Ac) × Option (List (List Ac)) × Option (List Int) × List Af)=>Bb (idx a.2.2.1 a.2.1) λn=>Bb (n) λo=>Bb (app 104 e.2.2.2.2 ([o])) λp=>some (.go (e.1,I6.wrap (a.2.1+1),(a.2.2.1.set a.2.1.toNat none),e.2.1,e.2.2.1,e.2.2.2.1,p))))else some (.done (.go (a.1,a.2.2.2.1,a.2.2.2.2.1,a.2.2.2.2.2.1,a.2.2.2.2.2.2)))) (false,(0:Int),(l.map some),(some t.g.x),(some t.g.t),(some t.g.B),([]:List Af))) (λ(d:Bool × Option (List Ac) × Option (List (List Ac)) × Option (List Int) × List Af)=>bindC (if !d.1 then Bb (d.2.1) λs=>Bb (d.2.2.1) λu=>Bb (d.2.2.2.1) λv=>Bb (app 104 d.2.2.2.2 ([(⟨t.q,t.J,t.G,⟨s,u,t.g.c,v⟩⟩:Af)])) λw=>some (.go w)else some (.go d.2.2.2.2)) (λ(y:List Af)=>some y))
def zrN {l:List Af} {t:Af} :Cn Pg 168 [U0,.agg #[iv t.q,iv t.J,iv t.G,U1,U2,iv t.g.c,U3]] [.own U0 (lc l),.own U1 (lc t.g.x),.own U2 (lc t.g.t),.own U3 (lc t.g.B)] [] (zia l t) (λ_ (X:Value)=>X) λr X=>[.own X (lc r)]:=Ch Tryz.func168 r λw S Z=>by
 refine Sr<|Fo (Bx r (Ca ⟨Op',Op',Op',Ow' 1,Ow' 2,Op',Ow' 3,⟨⟩⟩)) λh=>Qs 1 r<|Nx<|Sr<|Fo (Bk [] ke30 kz64 r (Qz)) λo=>Kt (Ha [0] ([]:List Af) r Cz)<|Qs 1 r<|Nx<|Dw Z 9 [] r<|Jn (Value × Value × Value × Value) [3] [] (λT X=>[(5,X.2.2.2),(6,.bool T.1)]) (λT X=>[.box h 64 [iv t.q,iv t.J,iv t.G,X.1,X.2.1,iv t.g.c,X.2.2.1],mayI X.1 T.2.1,mayI X.2.1 T.2.2.1,mayI X.2.2.1 T.2.2.2.1,.own X.2.2.2 (lc T.2.2.2.2)]) r2 r2 (?_) λW i=>?_
 ·refine Wb<|Kw (Hm [2] r)<|Lp (Value × Value × Value × Value) [0,3] [] (λT X=>[(5,X.2.2.2),(6,.bool T.1),(7,iv T.2.1)]) (λT X=>[.box h 64 [iv t.q,iv t.J,iv t.G,X.1,X.2.1,iv t.g.c,X.2.2.1],.own U0 (lc T.2.2.1),mayI X.1 T.2.2.2.1,mayI X.2.1 T.2.2.2.2.1,mayI X.2.2.1 T.2.2.2.2.2.1,.own X.2.2.2 (lc T.2.2.2.2.2.2)]) (U1,U2,U3,.slice (some ⟨o,0,none⟩) 0 0) [2,0,1,1,1,0] r2 r2 λY a=>Dw Z 8 [1] r<|Wc r (λp=>?_) λp=>?_
  ·refine Sn<|Dw Z 4 [] r<|Jb (Value × Value × Value) [0,3,5,6,7] [1,4] (λT _=>[(26,.bool T.1)]) (λT X=>[.box h 64 [iv t.q,iv t.J,iv t.G,X.1,X.2.1,iv t.g.c,X.2.2],mayI X.1 T.2.1,mayI X.2.1 T.2.2.1,mayI X.2.2 T.2.2.2]) r2 r2 (?_) λT8 b=>?_
   ·refine Dz 6 [] [] r hMix<|Aq [0,1,2] r<|Ia (λd=>?_) λd=>?_
    ·exact Ak (Kg Z (Gc d<|Gz)) [3,4] [] [0,0] r<|Ai λaa n=>Ak (Kk Z (Xc n<|Xz) (Gc d<|Gz)) [5,6,8,9] [] [0,1,0,0,2,0,0,0,0,0,0] r<|Ai λab s=>A1 7<|Xyg (gdA (zu d)) r (Le kk3 (Oc 1 r) (zgy n s) r)<|Ak (Kg Z (Gc d<|Gz)) [10,11] [] [0,0] r<|Az<|Bg (a.1,a.2.1,a.2.2.1) [1,4,0,0,0,0]
    exact Ax [3,4,5,6,7,8,9,10] (zE d) r r<|Ay 11 r (Pf d r)<|Az<|Bg (a.1,a.2.1,a.2.2.1) [1,4,0,0,0,0]
   refine Ne<|Jn (Value × Value × Value × Value) [0,3,7] [0] (λT X=>[(5,X.2.2.2),(6,.bool T.1)]) (λT X=>[.box h 64 [iv t.q,iv t.J,iv t.G,X.1,X.2.1,iv t.g.c,X.2.2.1],mayI X.1 T.2.1,mayI X.2.1 T.2.2.1,mayI X.2.2.1 T.2.2.2.1,.own X.2.2.2 (lc T.2.2.2.2)]) r2 r2 (?_) λac j=>?_
   ·refine Wc r (λu=>?_) λu=>?_
    ·refine Dt Z 4 [2] r<|Bi λv y=>Kt (Mb [3] y r)<|Bi λz A=>Kt (Mb [4] A r)<|Bi λC D=>Kt (Mb [5] D r)<|Fo (Bk [ic t.q,ic t.J,ic t.G,.raw b.1,.raw b.2.1,ic t.g.c,.raw b.2.2] ke30 kz64 r (Qc (Ca ⟨Op',Op',Op',Ow' 2,Ow' 1,Op',Ow' 0,⟨⟩⟩)<|Qz)) λad=>Kt (Ha [0,2,1,0] ([(⟨t.q,t.J,t.G,⟨v,z,t.g.c,C⟩⟩:Af)]:List Af) r (Ck (Ck (Ck (Cf (Cf (Ck (Cf Cz))))))))<|Bi λae E=>?_
     exact Fo (Aw [2,0] E ke30 kz64 r) λF=>Qs 1 r<|Nx<|Rg<|Qs 1 r<|Nl<|Ke Mn<|Ke Mn<|Ke Mn<|Jg (b.1,b.2.1,b.2.2,F) [4,4,2,1,0,0]
    exact Sk<|Jg (b.1,b.2.1,b.2.2,a.2.2.2) [0,1,1,1,1,0]
   refine Ne<|Rg<|Qs 3 r<|Bi λaf e=>Yo (Ix ke30 (Oc 0 r) e r)<|TO.fact (zcy (Can.own 0 r) e) λag=>Bi λf k=>Gt (X:=Value × Value × Value) (Ho 3 [0] (zgy e k) r r1) λm=>Yo (Lh 0 kk64 (zgy e k) r)<|Fo (Bk [ic f.q,ic f.J,ic f.G,.raw m.1,.raw m.2.1,ic f.g.c,.raw m.2.2] ke30 kz64 r (Qc (Ca ⟨Op',Op',Op',Ow' 1,Ow' 2,Op',Ow' 3,⟨⟩⟩)<|Qz)) λah=>Kt (Ha [0,1,1,1] ([f]:List Af) r (Ck (Ck (Ck (Cf (Cf (Ck (Cf Cz))))))))<|Bi λai H=>Fo (Aw [6,0] H ke30 kz64 r) λI=>?_
   exact Qs 1 r<|Nl<|Bn<|Ne<|Rg<|Qs 3 r<|Nl<|Ke (Hc (α:=(Option Af)) [1] none (zgy e k) r (Cd (Cd (Cd (Cd (Cd (Cd (Cd Cz))))))))<|Lg (j.1,j.2.1,j.2.2.1,I) [2,0,1,1,1,0]
  exact We<|Jg (a.1,a.2.1,a.2.2.1,a.2.2.2) [0,1,1,1,1]
 refine Ne<|Dw Z 6 [] r<|Jn Value [] [] (λ_ X=>[(5,X)]) (λT X=>[.own X (lc T)]) r2 r2 (?_) λaj K=>?_
 ·refine Wc r (λL=>?_) λL=>?_
  ·refine Dt Z 3 [0] r<|Bi λM N=>Kt (Mb [1] N r)<|Bi λO P=>Kt (Mb [2] P r)<|Bi λQ R=>Kt (Mb [3] R r)<|Fo (Bk [ic t.q,ic t.J,ic t.G,.raw i.1,.raw i.2.1,ic t.g.c,.raw i.2.2.1] ke30 kz64 r (Qc (Ca ⟨Op',Op',Op',Ow' 2,Ow' 1,Op',Ow' 0,⟨⟩⟩)<|Qz)) λak=>Kt (Ha [0,2,1,0] ([(⟨t.q,t.J,t.G,⟨M,O,t.g.c,Q⟩⟩:Af)]:List Af) r (Ck (Ck (Ck (Cf (Cf (Ck (Cf Cz))))))))<|Bi λal U=>?_
   exact Fo (Aw [2,0] U ke30 kz64 r) λV=>Qs 1 r<|Nl<|Jg V [0]
  exact Sk<|Jg i.2.2.2 [4]
 exact Ne<|Dw Z 5 [] r<|Wr<|Re K [0]
def zfH (s:Ae) (c:Ao):Option (Ae × Ar):=Bb (Bb (zt c.s 1 99) λd=>if !d then some true else Bb (zt c.N 0 40) λe=>if !e then some true else if !(Dc ((c.j.length:Int)=32))then some true else Bb (zcX s.a c.s) λf=>some (Dc (f>=0))) (λ(g:Bool)=>if g=true then Bb (zD 1) λh=>some (s,h)else if Dc ((s.a.length:Int)>=4)then Bb (zD 4) λi=>some (s,i)else Bb (zbF s.C c.s c.N) λb=>if !b.2 then Bb (zD 6) λk=>some (s,k)else Bb (zh5 s.m c.s c.j) λl=>Bb (zia s.a (⟨c.s,0,0,⟨[],[],0,[]⟩⟩:Af)) λn=>Bb (zcs s.F c.s 0) λo=>some ((⟨s.F,l.1,b.1,n,s.u,s.L,s.A⟩:Ae),(⟨0,1,o,[]⟩:Ar)))
def zop {s:Ae} {c:Ao} {U5:Value} :Cn Pg 112 [.agg #[strV s.F,strV s.m.K,U0,iv s.m.H,iv s.C.I,U1,U2,U3,U4,iv s.A],.agg #[iv c.E,strV c.Q,iv c.s,iv c.N,strV c.j,strV c.W,U5]] [.own U0 (lc s.m.D),.own U1 (lc s.C.r),.own U2 (lc s.a),.own U3 (lc s.u),.own U4 (lc s.L)] [(U5,lc c.R)] (zfH s c) (λr (X:Value × Value × Value × Value × Value × Value)=>.tuple #[.agg #[strV r.1.F,strV r.1.m.K,X.1,iv r.1.m.H,iv r.1.C.I,X.2.1,X.2.2.1,X.2.2.2.1,X.2.2.2.2.1,iv r.1.A],.agg #[iv r.2.T,iv r.2.N,strV r.2.O,X.2.2.2.2.2]]) λr X=>[.own X.1 (lc r.1.m.D),.own X.2.1 (lc r.1.C.r),.own X.2.2.1 (lc r.1.a),.own X.2.2.2.1 (lc r.1.u),.own X.2.2.2.2.1 (lc r.1.L),.own X.2.2.2.2.2 (lc r.2.r)]:=Ch Tryz.func112 r λw S Z=>by
 refine Sr<|Fo (Bx r (Ca ⟨Op',Op',Ow' 0,Op',Op',Ow' 1,Ow' 2,Ow' 3,Ow' 4,Op',⟨⟩⟩)) λG=>Fo (Bx r (Ca ⟨Op',Op',Op',Op',Op',Op',Ob Z.1,⟨⟩⟩)) λJ=>Fo (Al kz33 r) λM=>Fo (Al kz41 r) λP=>Nx<|Sq<|Sq<|Jv [2,3,4,5] (λT=>[(33,.bool T)]) r1 (?_) λU=>?_
 ·refine Dt Z 3 [0,2] r<|Cc Z [] [] zq r r2 λV H8 _=>Qs 2 r<|It (λd=>Vv (Kg Z (Gc d<|Gz)) 6 [0,0,0,0,0] r<|Of 4 r r r<|Yo (Pt r r)<|Qs 1 r<|Of 6 r r r<|Yo (Pt r r)<|Nl<|Bg () [0,0,0,0,0,0,0,0,0]) λd=>Vv (Kg Z (Gc d<|Gz)) 2 [0,0,0,2] r<|Bi λaa f=>Fg (gdA (zf d)) (Cl [] zq f r r1) λ_=>Vv (Kg Z (Gc d<|Gz)) 3 [0,0] r<|It (λe=>Vv (Kg Z (Gc e<|Gz)) 6 [0,0,0,0,0] r<|Of 6 r r r<|Yo (Pt r r)<|Nl<|Bg () [0,0,0,0,0,0,0,0,0]) λe=>Vv (Kg Z (Gc e<|Gz)) 2 [0,0,0,2] r<|Yg (gdA (zf e)) (Y.slen ks9 r)<|Vv (Kg Z (Gc e<|Gz)) 3 [0,0] r<|It (λb=>Of 6 (zh b) r r<|Yo (Pt b r)<|Nl<|Bg () [0,0,0,0,0,0,0,0,0]) λb=>?_
  exact Vv (Kg Z (Gc b<|Gz)) 4 [0,0,0,3,0,0,0,2] r<|Bi λab g=>Fg (gdA (zf b)) (Cl [] zhy g r r1 ⟨(Oc 6 r),⟨⟩⟩) λ_=>Vv (Kg Z (Gc b<|Gz)) 2 [0,0] r<|Nl<|Bg () [0,0,0,0,0,0,0,0,0]
 refine Ne<|Wc r (λh=>?_) λh=>?_
 ·exact Sq<|Dz 9 [1] [2,3] r hMix<|Aj Z [0] [] [1] r<|Ai λac i=>A1 1<|Xe r (Cl [] zz i r r1) λk=>A1 2<|Xu r (Sb 1 kk33 r (Ca ⟨Op',Op',Ow' 5,Op',Op',Ow' 6,Ow' 7,Ow' 8,Ow' 9,Op',⟨⟩⟩) r)<|A1 3<|Xu r (Sb 2 kk41 r (Ca ⟨Op',Op',Op',Ow' 0,⟨⟩⟩) r)<|Az<|Ne<|Wv<|Rj (U0,U1,U2,U3,U4,k) [5,5,5,5,5,0] [1,2] r
 refine Sn<|Dw Z 8 [0,3,6] r<|Wc r (λl=>?_) λl=>?_
 ·exact Sq<|Dz 9 [1] [2,3] r hMix<|Aj Z [0] [] [1] r<|Ai λad n=>A1 1<|Xe r (Cl [] zz n r r1) λo=>A1 2<|Xu r (Sb 1 kk33 r (Ca ⟨Op',Op',Ow' 5,Op',Op',Ow' 6,Ow' 7,Ow' 8,Ow' 9,Op',⟨⟩⟩) r)<|A1 3<|Xu r (Sb 2 kk41 r (Ca ⟨Op',Op',Op',Ow' 0,⟨⟩⟩) r)<|Az<|Ne<|Wv<|Rj (U0,U1,U2,U3,U4,o) [5,5,5,5,5,0] [1,2] r
 refine Sn<|Dt Z 8 [0,3,0,2,0,2] r<|Cc Z [] [5] zke r r2 λae af p=>Qs 3 r<|Fo (Al kz29 r) λag=>Fu (Sb 0 kk29 r (Ca ⟨Op',Ow' 1,⟨⟩⟩) r)<|Qs 1 r<|Nx<|Dw Z 6 [] r<|Wc r (λq=>?_) λq=>?_
 ·exact Sq<|Dz 11 [3,2] [2,3] r hMix<|Aj Z [0] [] [3] r<|Ai λah t=>A1 1<|Xe r (Cl [] zz t r r1) λv=>A1 2<|Xu r (Sb 1 kk33 r (Ca ⟨Op',Op',Ow' 7,Op',Op',Ow' 8,Ow' 9,Ow' 10,Ow' 11,Op',⟨⟩⟩) r)<|A1 3<|Xu r (Sb 2 kk41 r (Ca ⟨Op',Op',Op',Ow' 0,⟨⟩⟩) r)<|Az<|Ne<|Wv<|Rj (U0,U1,U2,U3,U4,v) [7,7,7,7,7,0] [1,2] r
 refine Sn<|Dt Z 4 [0,0] r<|Fu (Sb 5 kk29 r (Ca ⟨Op',Ow' 1,⟨⟩⟩) r)<|Nx<|Dt Z 8 [0,5,0,4,0,4] r<|Cc Z [] [6] zrI r r2 λai aj x=>Qs 3 r<|Fo (Al kz26 r) λak=>Fu (Sb 0 kk26 r (Ca ⟨Op',Ow' 1,Op',⟨⟩⟩) r)<|Qs 1 r<|Nx<|Dt Z 4 [0,0] r<|Fu (Sb 7 kk26 r (Ca ⟨Op',Ow' 1,Op',⟨⟩⟩) r)<|Nx<|Dt Z 6 [0,7,0,6] r<|Yo (Bd kp64 kz64 (Pc r (Cp r)<|Pz) r)<|Bi λal y=>No 4<|No 1<|No 1<|Fo (Cl [13,2,1,0] zrN y r r1) λz=>Dv Z 1 [0] r<|Fu (Sb 8 kk30 r (Co 0) r)<|Nx<|Sq<|Dz 13 [6,5] [7,8] r hMix<|Aj Z [0,1,2,3,4] [] [6,0,6,0,5] r<|Ai λam B=>?_
 exact A1 5<|Xe r (Cl [] zex B r r1) λ_=>Ay 6 r (Bd kp41 kz41 (Pc r (Cp r)<|Pc r (Cp r)<|Pz) r)<|A1 7<|Xu r (Sb 0 kk33 r (Ca ⟨Op',Op',Ow' 4,Op',Op',Ow' 6,Ow' 2,Ow' 11,Ow' 12,Op',⟨⟩⟩) r)<|A1 8<|Xu r (Sb 1 kk41 r (Cp r) r)<|Az<|Ne<|Wr<|Ni 2<|Rj (x,p,z,U3,U4,(.slice none 0 0)) [5,6,3,9,9,0] [1,2] r
def zdF (d:At) (tenant:Int):Option (List UInt8):=bindC (loopO (λ(a:Int)=>Bb (if Dc (a<(d.D.length:Int))then Bb (zbg d) λc=>some c else some false) (λ(e:Bool)=>if e=true then Bb (idx d.D a) λb=>if Dc (b.s=tenant)then some (.done (.done b.j))else some (.go (I6.wrap (a+1)))else some (.done (.go ())))) (0:Int)) (λ(f:Unit)=>some ([]))
def zhn:Cn Pg 69 [.agg #[strV d.K,U0,iv d.H],iv tenant] [] [(U0,lc d.D)] (zdF d tenant) (λr (_:Unit)=>strV r) λ_ _=>[]:=Ch Tryz.func69 r λw S Z=>by
 refine Sr<|Fo (Bx r (Ca ⟨Op',Ob Z.1,Op',⟨⟩⟩)) λg=>Qs 1 r<|Nx<|Dw Z 5 [] r<|Jn Unit [] [] (λ_ _=>[]) (λ_ _=>[]) r2 r2 (?_) λh i=>?_
 ·refine Wb<|Lu [1,2] (λT=>[(5,iv T)]) r1 λj=>Sq<|Sq<|Jv [1,2,5] (λT=>[(14,.bool T)]) r1 (Dt Z 7 [0,0,100] r<|It (λa=>Vv (Kg Z (Gc a<|Gz)) 1 [0,0] r<|Bi λk c=>Fg (gdA (zu a)) (Cl [] zfh c r r1 ⟨(Bc Z.1),⟨⟩⟩) λ_=>Yo (Pt a r)<|Nl<|Bg () [0]) λa=>Of 2 (zE a) r r<|Yo (Pf a r)<|Nl<|Bg () [0]) λl=>Ne<|Wc r (λe=>Sn<|Dt Z 7 [0,0] r<|Bi λm b=>Vv (Kx Z (Xc b<|Xz)) 5 [100,0,101,0,0,300,0,0] r<|Nx<|Wc r (λf=>Vw (Kx Z (Xc b<|Xz)) 10 [0,0,100,0,101,0,0,300,0,1] r<|Wr<|Bu<|Rq) λf=>Sk<|Bn<|Ne<|Rg<|Qs 3 r<|Nl<|Lg () [0]) λe=>?_
  exact We<|Jq
 exact Ne<|Dw Z 4 [] r<|Wr<|Rq
def zil (boot seq:Int):Option Bool:=Bb (Bb (zt boot 0 1000) λa=>if a=true then Bb (zt seq 0 999999) λb=>some b else some false) (λ(c:Bool)=>some c)
def znF {boot seq:Int} :Cn Pg 128 [iv boot,iv seq] [] [] (zil boot seq) (λr (_:Unit)=>.bool r) λ_ _=>[]:=Ch Tryz.func128 r λw S Z=>Dw Z 5 [] r<|Jv [] (λT=>[(4,.bool T)]) r1 (Rg<|Qs 1 r<|Cc Z [] [] zq r r2 λc d _=>Qs 1 r<|It (λa=>Qg 1 (zu a) r r<|Bi λe b=>Fg (gdA (zu a)) (Cl [] zq b r r1) λ_=>Yo (Pt a r)<|Qs 1 r<|Nl<|Bv) λa=>Vv (Kg Z (Gc a<|Gz)) 4 [0,0,0] r<|Nl<|Bv) λf=>Ne<|Wr<|Rq
def zd9 (key:List UInt8) (counter:Int) (nonce text:List UInt8):Option (List UInt8):=Bb (zcO key counter nonce) λd=>if Dc (d=([]))then some ([])else bindC (loopO (λ(a:Int × List UInt8)=>if Dc (a.1<(text.length:Int))then Bb (zcO key (I6.wrap (counter+(I6.wrap (Int.tdiv a.1 64)))) nonce) λc=>if Dc (c=([]))then some (.done (.done ([])))else bindC (loopO (λ(b:Int × List UInt8)=>Bb (if Dc (b.1<(text.length:Int))then some (Dc (b.1<I6.wrap (a.1+64)))else some false) (λ(e:Bool)=>if e=true then Bb (sidx text b.1) λf=>Bb (sidx c (I6.wrap (b.1 - a.1))) λg=>Bb (app 1 b.2 ([(f ^^^ g)])) λh=>some (.go (I6.wrap (b.1+1),h))else some (.done (.go b.2)))) (a.1,a.2)) (λ(i:List UInt8)=>some (.go (I6.wrap (a.1+64),i)))else some (.done (.go a.2))) ((0:Int),([]:List UInt8))) (λ(j:List UInt8)=>some j)
def zjz {counter:Int} {nonce text:List UInt8} :Cn Pg 130 [strV key,iv counter,strV nonce,strV text] [] [] (zd9 key counter nonce text) (λr (_:Unit)=>strV r) λ_ _=>[]:=Ch Tryz.func130 r λw S Z=>by
 refine Dt Z 6 [] r<|Fo (Bs ([]:List UInt8) ke22 kz5) λc=>Qs 1 r<|Nx<|Dt Z 6 [] r<|Cc Z [] [] zhk r r2 λp q _=>Qs 1 r<|Nx<|Wc r (λd=>Dw Z 4 [] r<|Wv<|Rq) λd=>Sn<|Dw Z 5 [] r<|Jn Value [] [] (λ_ X=>[(9,X)]) (λT X=>[.own X (lc T)]) r2 r2 (?_) λs t=>?_
 ·refine Wb<|Lp Value [0,1,2,3] [] (λT X=>[(9,X),(10,iv T.1)]) (λT X=>[.own X (lc T.2)]) (.slice (some ⟨c,0,none⟩) 0 0) [0] r2 r2 λu b=>Dt Z 5 [] r<|Yo (Y.slen ks9 r)<|Qs 1 r<|Nx<|Wc r (λe=>?_) λe=>?_
  ·refine Sn<|Dt Z 7 [] r<|Yo (Y.quo (by decide) r r)<|Qs 2 r<|Cc Z [] [] zhk r r2 λv x _=>Qs 1 r<|Nx<|Dw Z 6 [] r<|Wc r (λf=>Dw Z 4 [] r<|Wv<|Bu<|Rq) λf=>Sn<|Dw Z 5 [] r<|Jn Value [0,1,2,3,10] [] (λ_ X=>[(9,X)]) (λT X=>[.own X (lc T)]) r2 r2 (?_) λy g=>?_
   ·refine Wb<|Lp Value [0,1,2,3,10,11] [] (λT X=>[(9,X),(12,iv T.1)]) (λT X=>[.own X (lc T.2)]) b [0] r2 r2 λz h=>Sq<|Sq<|Jv [0,1,2,3,9,10,11,12] (λT=>[(44,.bool T)]) r1 (Rg<|Qs 2 r<|Yo (Y.slen ks9 r)<|Qs 2 r<|It (λa=>Qg 4 (zu a) r r<|Yo (Pt a r)<|Nl<|Bg () [0]) λa=>Of 4 (zE a) r r<|Yo (Pf a r)<|Nl<|Bg () [0]) λA=>Ne<|Wc r (λi=>?_) λi=>?_
    ·exact Sn<|Sq<|Wb<|Dr [0] [11] r hMix<|Aq [0,1,2] r<|Ai λj k=>Ay 3 r (Y.sidx k ks9 r r)<|Aq [4,5,6,7] r<|Ai λl m=>Ay 8 r (Y.sidx m ks9 r r)<|Ay 9 r (Y.xor8 r r)<|A1 10<|Xe r (Bs [(j ^^^ l)] ke22 kz5) λB=>Ai λC n=>A1 11<|Xe r (Ap [1] n ke22 kz5 r (Oc 0 r)) λo=>Aq [12] r<|Az<|Bn<|Ne<|Rg<|Qs 3 r<|Nl<|Lg o [0]
    exact We<|Jg h [0]
   exact Bn<|Ne<|Rg<|Qs 3 r<|Nl<|Lg g [0]
  exact We<|Jg b [0]
 exact Ne<|Sr<|Qs 1 r<|Yo (Y.toStr ke22 ki5 ks9 (Oc 0 r) r)<|Qs 1 r<|Nx<|Wr<|Rq
def zfj (s:List UInt8):Option (Int × Int):=bindC (loopO (λ(a:Int)=>Bb (if Dc (a<=7)then some (Dc (a<=(s.length:Int)))else some false) (λ(d:Bool)=>if d=true then bindC (loopO (λ(b:Int × Int)=>if Dc (b.2>=0)then Bb (sidx s b.2) λe=>some (.go (I6.wrap (I6.wrap (b.1*128)+(Int.tmod (I6.wrap (e.toNat:Int)) 128)),I6.wrap (b.2 - 1)))else some (.done (.go b.1))) ((0:Int),I6.wrap (a - 1))) (λ(c:Int)=>Bb (ssub s 0 a) λf=>Bb (zez c) λg=>if Dc (g=f)then some (.done (.done (c,a)))else some (.go (I6.wrap (a+1))))else some (.done (.go ())))) (1:Int)) (λ(h:Unit)=>some ((0:Int),(0:Int)))
def zqm:Cn Pg 174 [strV s] [] [] (zfj s) (λr (_:Unit)=>.tuple #[iv r.1,iv r.2]) λ_ _=>[]:=Ch Tryz.func174 r λw S Z=>by
 refine Dw Z 10 [] r<|Ju [] (λ_=>[]) r1 (?_) λh=>?_
 ·refine Wb<|Lu [0] (λT=>[(4,iv T)]) r1 λi=>Sq<|Sq<|Jv [0,4] (λT=>[(14,.bool T)]) r1 (Rg<|Qs 3 r<|It (λa=>Qg 2 (zu a) r r<|Yg (gdA (zu a)) (Y.slen ks9 r)<|Vv (Kg Z (Gc a<|Gz)) 2 [0,0] r<|Nl<|Bv) λa=>Of 4 (zE a) r r<|Yo (Pf a r)<|Nl<|Bv) λj=>Ne<|Wc r (λb=>?_) λb=>?_
  ·refine Sn<|Dw Z 13 [] r<|Ju [0,4] (λT=>[(5,iv T)]) r1 (?_) λk=>?_
   ·exact Wb<|Lu [0,4] (λT=>[(5,iv T.1),(6,iv T.2)]) r1 λl=>Dw Z 6 [] r<|Wc r (λc=>Sn<|Dt Z 7 [] r<|Bi λm d=>Yo (Y.sidx d ks9 r r)<|Yo (Y.conv ki5 ki3 r)<|Yo (Y.rem (by decide) r r)<|Qs 2 r<|Nl<|Bn<|Ne<|Rg<|Qs 3 r<|Nl<|Lq) λc=>We<|Jq
   exact Ne<|Sq<|Dr [] [] r hMix<|Aq [0,2,3] r<|Ai λn e=>Ay 4 r (Y.ssub_to e ks9 r r)<|Ai λo f=>A1 1<|Xe r (Cl [] zhu f r r1) λ_=>Aq [5] r<|Az<|Ne<|Wc r (λg=>Dw Z 7 [] r<|Wr<|Bu<|Rq) λg=>Sk<|Bn<|Ne<|Rg<|Qs 3 r<|Nl<|Lq
  exact We<|Jq
 exact Ne<|Dw Z 5 [] r<|Wr<|Rq
def zbH (s:List UInt8) (at_ n:Int):Option (List Int × Int):=bindC (loopO (λ(a:Int × Int × List Int)=>if Dc (a.2.1<n)then Bb (if Dc (a.1<0)then some true else some (Dc (a.1>(s.length:Int)))) (λ(d:Bool)=>if d=true then some (.done (.done (a.2.2,(-1:Int))))else Bb (ssub s a.1 (s.length:Int)) λe=>Bb (zfj e) λb=>if Dc (b.2=0)then some (.done (.done (a.2.2,(-1:Int))))else Bb (app 8 a.2.2 ([b.1])) λf=>some (.go (I6.wrap (a.1+b.2),I6.wrap (a.2.1+1),f)))else some (.done (.go (a.1,a.2.2)))) (at_,(0:Int),([]:List Int))) (λ(c:Int × List Int)=>some (c.2,c.1))
def ziw {n:Int} :Cn Pg 117 [strV s,iv at_,iv n] [] [] (zbH s at_ n) (λr (X:Value)=>.tuple #[X,iv r.2]) λr X=>[.own X (lc r.1)]:=Ch Tryz.func117 r λw S Z=>by
 refine Dt Z 7 [] r<|Fo (Bs ([]:List Int) ke60 kz3) λc=>Qs 1 r<|Nx<|Dw Z 5 [] r<|Jn Value [] [] (λT X=>[(1,iv T.1),(8,X)]) (λT X=>[.own X (lc T.2)]) r2 r2 (?_) λl d=>?_
 ·refine Wb<|Lp Value [0,2] [] (λT X=>[(1,iv T.1),(8,X),(9,iv T.2.1)]) (λT X=>[.own X (lc T.2.2)]) (.slice (some ⟨c,0,none⟩) 0 0) [0] r2 r2 λm b=>Dw Z 7 [] r<|Wc r (λe=>?_) λe=>?_
  ·refine Sn<|Dw Z 4 [] r<|Jv [0,1,2,8,9] (λT=>[(25,.bool T)]) r1 (Rg<|Qs 3 r<|It (λa=>Of 4 (zh a) r r<|Yo (Pt a r)<|Nl<|Bg () [0]) λa=>Qg 2 (zf a) r r<|Yg (gdA (zf a)) (Y.slen ks9 r)<|Vv (Kg Z (Gc a<|Gz)) 2 [0,0] r<|Nl<|Bg () [0]) λo=>Ne<|Wc r (λf=>Dw Z 6 [] r<|Wv<|Bu<|Re b [0]) λf=>Sn<|Sr<|Qs 2 r<|Bi λp g=>Yo (Y.ssub_from g ks9 r r)<|Cc Z [] [] zqm r r2 λh q _=>Qs 5 r<|Nx<|Dw Z 6 [] r<|Wc r (λi=>Dw Z 6 [] r<|Wv<|Bu<|Re b [0]) λi=>?_
   exact Sn<|Sr<|Qs 2 r<|Fo (Bs [h.1] ke60 kz3) λt=>Bi λu j=>Fo (Ap [1] j ke60 kz3 r (Oc 0 r)) λk=>Qs 1 r<|Nx<|Rg<|Qs 4 r<|Nl<|Bn<|Ne<|Rg<|Qs 3 r<|Nl<|Lg k [0]
  exact We<|Jg b [0]
 exact Ne<|Dw Z 7 [] r<|Wr<|Re d [0]
def zdN (s:List UInt8) (at_:Int):Option (List UInt8 × Int):=Bb (zbH s at_ (1:Int)) λa=>Bb (if Dc (a.2<0)then some true else Bb (idx a.1 0) λc=>some (Dc (c>I6.wrap ((s.length:Int) - a.2)))) (λ(d:Bool)=>if d=true then some ([],(-1:Int))else Bb (idx a.1 0) λb=>Bb (ssub s a.2 (I6.wrap (a.2+b))) λe=>some (e,I6.wrap (a.2+b)))
def zlR:Cn Pg 184 [strV s,iv at_] [] [] (zdN s at_) (λr (_:Unit)=>.tuple #[strV r.1,iv r.2]) λ_ _=>[]:=Ch Tryz.func184 r λw S Z=>by
 refine Dt Z 9 [] r<|Cc Z [] [] ziw r r2 λf g h=>Qs 5 r<|Nx<|Sq<|Sq<|Jv [0,6,7] (λT=>[(25,.bool T)]) r1 (Rg<|Qs 3 r<|It (λa=>Of 8 (zh a) r r<|Yo (Pt a r)<|Nl<|Bg () [0]) λa=>Qg 1 (zf a) r r<|Bi λi c=>Vv (Kk Z (Xc c<|Xz) (Gc a<|Gz)) 3 [0,0,0,0,200,0,0,0] r<|Yg (gdA (zf a)) (Y.slen ks9 r)<|Qg 3 (zf a) r r<|Yo (Pf a r)<|Nl<|Bg () [0]) λj=>Ne<|Wc r (λd=>Dw Z 5 [] r<|Wv<|Rq) λd=>Sn<|Sq<|Dz 1 [] [] r hMix<|Aq [0,1,2,3] r<|Ai λk b=>Ak (Kx Z (Xc b<|Xz)) [4,5,6] [] [0,0,200,0,0] r<|Ai λl e=>?_
 exact Ay 7 r (Y.ssub_both e ks9 r r r)<|Ak (Kx Z (Xc b<|Xz)) [8,9,10,11,12,13,14] [] [0,0,200,0,0] r<|Az<|Ne<|Wr<|Rq
def zfm (o:Op):Option Bool:=Bb (Bb (zt (o.j.length:Int) (1:Int) (10:Int)) λa=>if a=true then if Dc ((o.M.length:Int)<=16)then if !o.P then some true else some (Dc (o.M=([])))else some false else some false) (λ(b:Bool)=>some b)
def zkq {o:Op} :Cn Pg 183 [.agg #[strV o.j,.bool o.P,strV o.M]] [] [] (zfm o) (λr (_:Unit)=>.bool r) λ_ _=>[]:=Ch Tryz.func183 r λw S Z=>by
 refine Sr<|Fo (Bx r (Cp r)) λd=>Qs 1 r<|Nx<|Sq<|Jb Unit [] [] (λT _=>[(2,.bool T)]) (λ_ _=>[]) r2 r2 (?_) λe f=>?_
 ·refine Dt Z 3 [0,0] r<|Yo (Y.slen ks9 r)<|Cc Z [] [] zq r r2 λg h _=>Qs 1 r<|It (λb=>?_) λb=>?_
  ·exact Vv (Kg Z (Gc b<|Gz)) 2 [0,0,0,0] r<|Yg (gdA (zu b)) (Y.slen ks9 r)<|Vv (Kg Z (Gc b<|Gz)) 3 [0,0] r<|It (λa=>Vv (Kg Z (Gc a<|Gz)) 4 [0,0,0,0,0,0] r<|It (λc=>Vv (Kg Z (Gc c<|Gc a<|Gz)) 6 [0,0,0,1,0,1] r<|Nl<|Bv) λc=>Vv (Kg Z (Gc c<|Gc a<|Gz)) 6 [0,0,0,0,0,1,0,1] r<|Nl<|Bv) λa=>Of 4 (zE a) r r<|Ou 3 r r<|Vv (Kg Z (Gc a<|Gz)) 3 [0,0] r<|Nl<|Bv
  exact Vv (Kg Z (Gc b<|Gz)) 6 [0,0,0,0,0] r<|Of 4 r r r<|Ou 3 r r<|Of 1 r r r<|Yo (Pf r r)<|Qs 1 r<|Nl<|Bv
 exact Ne<|Wr<|Rq
def zdg (l:List Op):Option Bool:=Bb (zt (l.length:Int) (1:Int) (6:Int)) λb=>if !b then some false else bindC (loopO (λ(a:Int)=>if Dc (a<(l.length:Int))then Bb (idx l a) λc=>Bb (zfm c) λd=>if !d then some (.done (.done false))else some (.go (I6.wrap (a+1)))else some (.done (.go ()))) (0:Int)) (λ(e:Unit)=>some true)
def zfB {l:List Op} :Cn Pg 131 [U0] [] [(U0,lc l)] (zdg l) (λr (_:Unit)=>.bool r) λ_ _=>[]:=Ch Tryz.func131 r λw S Z=>by
 refine Dt Z 9 [100] r<|Cc Z [] [] zq r r2 λe f _=>Qs 1 r<|Nx<|Wc r (λa=>Dw Z 4 [] r<|Wv<|Rq) λa=>Sn<|Dw Z 5 [] r<|Ju [] (λ_=>[]) r1 (?_) λg=>?_
 ·exact Wb<|Lu [0] (λT=>[(3,iv T)]) r1 λh=>Dw Z 8 [100] r<|Wc r (λb=>Sn<|Dt Z 6 [] r<|Bi λi c=>Vv (Kx Z (Xc c<|Xz)) 2 [100,0,300,0,0] r<|Cc Z [] [] zkq r r2 λj k _=>Qs 1 r<|Nx<|Wc r (λd=>Dw Z 4 [] r<|Wr<|Bu<|Rq) λd=>Sk<|Bn<|Ne<|Rg<|Qs 3 r<|Nl<|Lq) λb=>We<|Jq
 exact Ne<|Dw Z 4 [] r<|Wr<|Rq
def zeh (s:List UInt8):Option (List UInt8):=Bb (zez (s.length:Int)) λa=>Bb (cat a s) λb=>some b
def zhU:Cn Pg 229 [strV s] [] [] (zeh s) (λr (_:Unit)=>strV r) λ_ _=>[]:=Ch Tryz.func229 r λw S Z=>Dt Z 7 [] r<|Yo (Y.slen ks9 r)<|Cc Z [] [] zhu r r2 λb c _=>Qs 1 r<|Bi λd a=>Yo (Y.cat a r r)<|Qs 1 r<|Nx<|Wr<|Rq
def zed (l:List Op):Option (List UInt8):=Bb (zdg l) λc=>if !c then some ([])else Bb (zez (l.length:Int)) λd=>bindC (loopO (λ(a:List UInt8 × Int)=>if Dc (a.2<(l.length:Int))then Bb (idx l a.2) λb=>bindC (if b.P=true then Bb (cat a.1 ([1])) λe=>Bb (zeh b.j) λf=>Bb (cat e f) λg=>some (.go g)else Bb (cat a.1 ([0])) λh=>Bb (zeh b.j) λi=>Bb (cat h i) λk=>Bb (zeh b.M) λm=>Bb (cat k m) λn=>some (.go n)) (λ(o:List UInt8)=>some (.go (o,I6.wrap (a.2+1))))else some (.done (.go a.1))) (d,(0:Int))) (λ(p:List UInt8)=>some p)
def zjD {l:List Op} :Cn Pg 185 [U0] [] [(U0,lc l)] (zed l) (λr (_:Unit)=>strV r) λ_ _=>[]:=Ch Tryz.func185 r λw S Z=>by
 refine Dt Z 8 [] r<|Cc Z [] [100] zfB r r2 λm n _=>Qs 1 r<|Nx<|Wc r (λb=>Dw Z 4 [] r<|Wv<|Rq) λb=>Sn<|Dt Z 4 [100] r<|Cc Z [] [] zhu r r2 λo p _=>Qs 1 r<|Nx<|Dw Z 5 [] r<|Ju [] (λT=>[(3,strV T)]) r1 (?_) λq=>?_
 ·refine Wb<|Lu [0] (λT=>[(3,strV T.1),(4,iv T.2)]) r1 λs=>Dw Z 8 [100] r<|Wc r (λc=>?_) λc=>?_
  ·refine Sn<|Dt Z 6 [] r<|Bi λt a=>Vv (Kx Z (Xc a<|Xz)) 3 [100,0,101,0,0,300,0,1] r<|Nx<|Ju [0,4] (λT=>[(3,strV T)]) r1 (?_) λu=>?_
   ·refine Wc r (λd=>Rg<|Qs 1 r<|Bi λv e=>Yo (Y.cat e r r)<|Vv (Kx Z (Xc a<|Xz)) 5 [100,0,101,0,0,300,0,0] r<|Cc Z [] [] zhU r r2 λx y _=>Bi λz f=>Yo (Y.cat f r r)<|Qs 1 r<|Nl<|Jq) λd=>Dr [] [] r hMix<|Aq [0] r<|Ai λA g=>Ay 1 r (Y.cat g r r)<|Ak (Kx Z (Xc a<|Xz)) [2,3,4,5,6,9,10,11,12,13] [] [100,0,101,0,0,300,0,0,100,0,101,0,0,300,0,2] r<|Ai λB h=>A1 7<|Xe r (Cl [] zhU h r r1) λ_=>Ai λC i=>Ay 8 r (Y.cat i r r)<|Ai λD j=>A1 14<|Xe r (Cl [] zhU j r r1) λ_=>?_
    exact Ai λE k=>Ay 15 r (Y.cat k r r)<|Aq [16] r<|Az<|Jq
   exact Bn<|Ne<|Rg<|Qs 3 r<|Nl<|Lq
  exact We<|Jq
 exact Ne<|Dw Z 5 [] r<|Wr<|Rq
def zcu (s:List UInt8):Option (List Op × Bool):=Bb (zbH s 0 1) λb=>Bb (if Dc (b.2<0)then some true else Bb (idx b.1 0) λh=>some (Dc (h>6))) (λ(i:Bool)=>if i=true then some (([]:List Op),false)else bindC (loopO (λ(a:Int × Int × List Op)=>Bb (idx b.1 0) λj=>if Dc (a.2.1<j)then if Dc (a.1>=(s.length:Int))then some (.done (.done (([]:List Op),false)))else Bb (sidx s a.1) λf=>Bb (zdN s (I6.wrap (a.1+1))) λc=>bindC (if !(Dc ((f.toNat:Int)=1))then Bb (zdN s c.2) λg=>some (.go (g.2,g.1))else some (.go (c.2,[]))) (λ(d:Int × List UInt8)=>if Dc (d.1<0)then some (.done (.done (([]:List Op),false)))else Bb (app 40 a.2.2 ([(⟨c.1,Dc ((f.toNat:Int)=1),d.2⟩:Op)])) λk=>some (.go (d.1,I6.wrap (a.2.1+1),k)))else some (.done (.go a.2.2))) (b.2,(0:Int),([]:List Op))) (λ(e:List Op)=>Bb (if Dc ((e.length:Int)=0)then some true else Bb (zed e) λl=>some (!(Dc (l=s)))) (λ(m:Bool)=>if m=true then some (([]:List Op),false)else some (e,true))))
def zok:Cn Pg 129 [strV s] [] [] (zcu s) (λr (X:Value)=>.tuple #[X,.bool r.2]) λr X=>[.own X (lc r.1)]:=Ch Tryz.func129 r λw S Z=>by
 refine Dt Z 7 [] r<|Fo (Bs ([]:List Op) ke34 kz129) λc=>Qs 1 r<|Nx<|Sr<|Qs 1 r<|Cc Z [] [] ziw r r2 λA B C=>Qs 5 r<|Nx<|Sq<|Sq<|Jv [0,4,5,6] (λT=>[(25,.bool T)]) r1 (Rg<|Qs 3 r<|It (λb=>Of 4 (zh b) r r<|Yo (Pt b r)<|Nl<|Bg () [0,0]) λb=>Qg 1 (zf b) r r<|Bi λD d=>Vv (Kk Z (Xc d<|Xz) (Gc b<|Gz)) 4 [0,0,0,0,200,0,0,0,0] r<|Nl<|Bg () [0,0]) λE=>Ne<|Wc r (λe=>Dw Z 6 [] r<|Wv<|Re (.slice (some ⟨c,0,none⟩) 0 0) [1]) λe=>Sn<|Dw Z 5 [] r<|Jn Value [0] [] (λ_ X=>[(4,X)]) (λT X=>[.own X (lc T)]) r2 r2 (?_) λF f=>?_
 ·refine Wb<|Lp Value [0,5] [0] (λT X=>[(4,X),(6,iv T.1),(7,iv T.2.1)]) (λT X=>[.own X (lc T.2.2)]) (.slice (some ⟨c,0,none⟩) 0 0) [0,0] r2 r2 λG g=>Dt Z 5 [] r<|Bi λH h=>Vv (Kx Z (Xc h<|Xz)) 3 [0,0,200,0,0] r<|Nx<|Wc r (λi=>?_) λi=>?_
  ·refine Sn<|Dt Z 7 [] r<|Yo (Y.slen ks9 r)<|Qs 1 r<|Nx<|Wc r (λj=>Sr<|Fo (Bs ([]:List Op) ke34 kz129) λk=>Qs 2 r<|Nx<|Wv<|Bu<|Re (.slice (some ⟨k,0,none⟩) 0 0) [0]) λj=>Sn<|Sr<|Qs 2 r<|Bi λl m=>Yo (Y.sidx m ks9 r r)<|Qs 2 r<|Nx<|Sr<|Qs 3 r<|Cc Z [] [] zlR r r2 λn I _=>Qs 5 r<|Nx<|Dw Z 10 [] r<|Ju [0,4,5,7,8,9] (λT=>[(10,iv T.1),(11,strV T.2)]) r1 (Wc r (λo=>Rg<|Qs 2 r<|Cc Z [] [] zlR r r2 λJ K _=>Qs 5 r<|Nl<|Jg () [0,0]) λo=>Sk<|Jg () [0,0]) λp=>?_
   exact Ne<|Dw Z 6 [] r<|Wc r (λq=>Sr<|Fo (Bs ([]:List Op) ke34 kz129) λt=>Qs 2 r<|Nx<|Wv<|Bu<|Re (.slice (some ⟨t,0,none⟩) 0 0) [0]) λq=>Sn<|Sr<|Qs 4 r<|Yo (Bd kp129 kz129 (Pc r (Cp r)<|Pc r (Cp r)<|Pc r (Cp r)<|Pz) r)<|Fo (Bs [(⟨n.1,Dc ((l.toNat:Int)=1),p.2⟩:Op)] ke34 kz129) λL=>Bi λM u=>Fo (Ap [2] u ke34 kz129 r (Oc 0 r)) λv=>Qs 1 r<|Nx<|Rg<|Qs 2 r<|Nl<|Bn<|Ne<|Rg<|Qs 3 r<|Nl<|Lg v [2,0]
  exact We<|Jg g [1]
 exact Ne<|Sq<|Sq<|Jv [4] (λT=>[(77,.bool T)]) r1 (Dt Z 5 [0] r<|It (λa=>Of 4 (zh a) r r<|Yo (Pt a r)<|Nl<|Bg () [0]) λa=>Qg 1 (zf a) r r<|Bi λN x=>Fg (gdA (zf a)) (Cl [] zjD x r r1 ⟨(Oc 0 r),⟨⟩⟩) λ_=>Vv (Kg Z (Gc a<|Gz)) 3 [0,0,0] r<|Nl<|Bg () [0]) λO=>Ne<|Wc r (λy=>Sr<|Fo (Bs ([]:List Op) ke34 kz129) λz=>Qs 2 r<|Nx<|Wv<|Re (.slice (some ⟨z,0,none⟩) 0 0) [0]) λy=>Sn<|Dw Z 6 [] r<|Wr<|Re f [0]
def zct (key:List UInt8) (boot seq:Int) (s:List UInt8):Option (List Op × Bool):=Bb (if !(Dc ((key.length:Int)=32))then some true else Bb (zil boot seq) λb=>some (!b)) (λ(c:Bool)=>if c=true then some (([]:List Op),false)else Bb (zeb 3 (I6.wrap (I6.wrap (boot*1000000)+seq))) λd=>Bb (zd9 key 0 d s) λe=>Bb (zcu e) λa=>some (a.1,a.2))
def zjB {boot seq:Int} :Cn Pg 70 [strV key,iv boot,iv seq,strV s] [] [] (zct key boot seq s) (λr (X:Value)=>.tuple #[X,.bool r.2]) λr X=>[.own X (lc r.1)]:=Ch Tryz.func70 r λw S Z=>by
 refine Dw Z 7 [] r<|Jv [0,1,2,3] (λT=>[(20,.bool T)]) r1 (Rg<|Qs 1 r<|Yo (Y.slen ks9 r)<|Qs 2 r<|It (λa=>Of 4 (zh a) r r<|Yo (Pt a r)<|Nl<|Bv) λa=>Qg 2 (zf a) r r<|Bi λf b=>Fg (gdA (zf a)) (Cl [] znF b r r1) λ_=>Vv (Kg Z (Gc a<|Gz)) 2 [0,0] r<|Nl<|Bv) λg=>Ne<|Wc r (λc=>Sr<|Fo (Bs ([]:List Op) ke34 kz129) λd=>Qs 2 r<|Nx<|Wv<|Re (.slice (some ⟨d,0,none⟩) 0 0) [0]) λc=>Sn<|Sr<|Qs 5 r<|Cc Z [] [] zhR r r2 λh i _=>Qs 1 r<|Cc Z [] [] zjz r r2 λj k _=>?_
 exact Cc Z [] [] zok r r2 λl m e=>Qs 5 r<|Nx<|Dw Z 7 [] r<|Wr<|Re e [0]
def zi6 (e:Ac):Option Bool:=Bb (Bb (zfm (⟨e.j,e.P,e.M⟩:Op)) λa=>if a=true then Bb (zt e.c 0 1000000) λb=>some b else some false) (λ(d:Bool)=>some d)
def zsL {e:Ac} :Cn Pg 126 [.agg #[strV e.j,iv e.c,.bool e.P,strV e.M]] [] [] (zi6 e) (λr (_:Unit)=>.bool r) λ_ _=>[]:=Ch Tryz.func126 r λw S Z=>by
 refine Sr<|Fo (Bx r (Cp r)) λd=>Qs 1 r<|Nx<|Sq<|Jb Unit [] [] (λT _=>[(2,.bool T)]) (λ_ _=>[]) r2 r2 (?_) λf g=>?_
 ·exact Dt Z 7 [0,0,0,0,0,0] r<|Yo (Bd kp129 kz129 (Pc r (Cp r)<|Pc r (Cp r)<|Pc r (Cp r)<|Pz) r)<|Cc Z [] [] zkq r r2 λh i _=>Qs 1 r<|It (λa=>Vv (Kg Z (Gc a<|Gz)) 2 [0,0,0,0] r<|Bi λk b=>Fg (gdA (zu a)) (Cl [] zq b r r1) λ_=>Yo (Pt a r)<|Qs 1 r<|Nl<|Bv) λa=>Vv (Kg Z (Gc a<|Gz)) 5 [0,0,0,0] r<|Nl<|Bv
 exact Ne<|Wr<|Rq
def zdh (a b:Ac):Option Bool:=Bb (if sLt a.j b.j then some true else if Dc (a.j=b.j)then some (Dc (a.c>b.c))else some false) (λ(d:Bool)=>some d)
def zfM {a b:Ac} :Cn Pg 127 [.agg #[strV a.j,iv a.c,.bool a.P,strV a.M],.agg #[strV b.j,iv b.c,.bool b.P,strV b.M]] [] [] (zdh a b) (λr (_:Unit)=>.bool r) λ_ _=>[]:=Ch Tryz.func127 r λw S Z=>by
 refine Sr<|Fo (Bx r (Cp r)) λf=>Fo (Bx r (Cp r)) λg=>Qs 1 r<|Nx<|Sq<|Jb Unit [] [] (λT _=>[(4,.bool T)]) (λ_ _=>[]) r2 r2 (?_) λh i=>?_
 ·exact Dt Z 7 [0,1,0,0] r<|It (λd=>Of 6 (zh d) r r<|Ou 5 r r<|Vv (Kg Z (Gc d<|Gz)) 3 [0,0] r<|Nl<|Bv) λd=>Vv (Kg Z (Gc d<|Gz)) 6 [0,0,0,1,0,0,0,0,0,0] r<|It (λe=>Vv (Kg Z (Gc e<|Gc d<|Gz)) 8 [0,0,0,1,0,0,0,0,0,1,0,1] r<|Nl<|Bv) λe=>Vv (Kg Z (Gc e<|Gc d<|Gz)) 8 [0,0,0,0,0,1,0,1] r<|Nl<|Bv
 exact Ne<|Wr<|Rq
def zc1 (l:List Ac):Option Bool:=bindC (loopO (λ(a:Int)=>if Dc (a<(l.length:Int))then Bb (Bb (idx l a) λb=>Bb (zi6 b) λc=>if !c then some true else if Dc (a>0)then Bb (idx l (I6.wrap (a - 1))) λd=>Bb (zdh d b) λe=>some (!e)else some false) (λ(f:Bool)=>if f=true then some (.done (.done false))else some (.go (I6.wrap (a+1))))else some (.done (.go ()))) (0:Int)) (λ(g:Unit)=>some true)
def zgn:Cn Pg 68 [U0] [] [(U0,lc l)] (zc1 l) (λr (_:Unit)=>.bool r) λ_ _=>[]:=Ch Tryz.func68 r λw S Z=>by
 refine Dw Z 9 [] r<|Ju [] (λ_=>[]) r1 (?_) λi=>?_
 ·refine Wb<|Lu [0] (λT=>[(3,iv T)]) r1 λj=>Dw Z 8 [100] r<|Wc r (λd=>?_) λd=>?_
  ·refine Sn<|Sq<|Wb<|Sq<|Jv [0,3] (λT=>[(32,.bool T)]) r1 (?_) λk=>?_
   ·refine Dr [] [] r hMix<|Aq [0,1] r<|Ai λm c=>Ak (Kx Z (Xc c<|Xz)) [2,3] [] [100,0,300,0,0] r<|Ai λn e=>A1 4<|Xe r (Cl [] zsL e r r1) λ_=>Aq [5,6] r<|Ia (λa=>Ax [7,8,9] (zh a) r r<|Au [10,11,12,13,14,15,16,17,18,19,20] r r<|Ak (Kg Z (Gc a<|Gz)) [21,22] [] [0,0] r<|Az<|Bv) λa=>Ak (Kg Z (Gc a<|Gz)) [7,8,9] [] [0,0,0] r<|Ia (λb=>?_) λb=>?_
    ·exact Ak (Kg Z (Gc b<|Gz)) [10,11,12] [] [0,0,0] r<|Ai λo f=>Ak (Kk Z (Xc f<|Xc c<|Xz) (Gc b<|Gz)) [13,14,15,16,17,18] [] [0,100,0,0,300,0,0,0,0,0,100,1,0,300,1,0] r<|Ai λp g=>A1 19<|Xeg (gdA (zu b)) r (Cl [] zfM g r r1) λ_=>Ak (Kg Z (Gc b<|Gc a<|Gz)) [20,21,22] [] [0,1,0,1] r<|Az<|Bv
    exact Ak (Kg Z (Gc b<|Gc a<|Gz)) [10,11,12,13,14,15,16,17,18,19,20,21,22] [] [0,0,0,0,0,0,0,0,0,0,0,1,0,1] r<|Az<|Bv
   exact Ne<|Wc r (λh=>Dw Z 4 [] r<|Wr<|Bu<|Rq) λh=>Sk<|Bn<|Ne<|Rg<|Qs 3 r<|Nl<|Lq
  exact We<|Jq
 exact Ne<|Dw Z 4 [] r<|Wr<|Rq
def zi2 (l:List Ac):Option Bool:=Bb (if Dc ((l.length:Int)<=60)then Bb (zc1 l) λa=>some a else some false) (λ(b:Bool)=>some b)
def zsH:Cn Pg 66 [U0] [] [(U0,lc l)] (zi2 l) (λr (_:Unit)=>.bool r) λ_ _=>[]:=Ch Tryz.func66 r λw S Z=>Dw Z 5 [] r<|Jv [] (λT=>[(2,.bool T)]) r1 (Dt Z 5 [100] r<|It (λa=>Qg 1 (zu a) r r<|Bi λc b=>Fg (gdA (zu a)) (Cl [] zgn b r r1 ⟨(Bc Z.1),⟨⟩⟩) λ_=>Yo (Pt a r)<|Qs 1 r<|Nl<|Bv) λa=>Vv (Kg Z (Gc a<|Gz)) 4 [0,0,0] r<|Nl<|Bv) λd=>Ne<|Wr<|Rq
def zc6 (l:List Ac):Option (Int × Int):=bindC (loopO (λ(a:Int × Int × Int)=>if Dc (a.2.2<(l.length:Int))then Bb (idx l a.2.2) λb=>bindC (if Dc (b.c<a.1)then some (.go b.c)else some (.go a.1)) (λ(e:Int)=>bindC (if Dc (b.c>a.2.1)then some (.go b.c)else some (.go a.2.1)) (λ(f:Int)=>some (.go (e,f,I6.wrap (a.2.2+1)))))else some (.done (.go (a.1,a.2.1)))) ((1000001:Int),(-1:Int),(0:Int))) (λ(d:Int × Int)=>some (d.1,d.2))
def zjE:Cn Pg 67 [U0] [] [(U0,lc l)] (zc6 l) (λr (_:Unit)=>.tuple #[iv r.1,iv r.2]) λ_ _=>[]:=Ch Tryz.func67 r λw S Z=>by
 refine Dw Z 18 [] r<|Ju [] (λT=>[(4,iv T.1),(5,iv T.2)]) r1 (?_) λe=>?_
 ·refine Wb<|Lu [0] (λT=>[(4,iv T.1),(5,iv T.2.1),(6,iv T.2.2)]) r1 λf=>Dw Z 8 [100] r<|Wc r (λb=>?_) λb=>?_
  ·exact Sn<|Dt Z 7 [] r<|Bi λg a=>Vv (Kx Z (Xc a<|Xz)) 5 [100,0,101,0,0,300,0,1] r<|Nx<|Ju [0,5,6] (λT=>[(4,iv T)]) r1 (Wc r (λc=>Vt (Kx Z (Xc a<|Xz)) 7 [100,0,101,0,0,300,0,1] r<|Nl<|Jq) λc=>Sk<|Jq) λh=>Ne<|Vw (Kx Z (Xc a<|Xz)) 10 [100,0,101,0,0,300,0,1] r<|Ju [0,4,6] (λT=>[(5,iv T)]) r1 (Wc r (λd=>Vt (Kx Z (Xc a<|Xz)) 7 [100,0,101,0,0,300,0,1] r<|Nl<|Jq) λd=>Sk<|Jq) λi=>Bn<|Ne<|Rg<|Qs 3 r<|Nl<|Lq
  exact We<|Jq
 exact Ne<|Dw Z 7 [] r<|Wr<|Rq
def zbX (e:Aa):Option Bool:=Bb (Bb (zi2 e.x) λi=>if !i then some true else if Dc ((e.t.length:Int)>6)then some true else Bb (zt e.c 0 1000000) λj=>if !j then some true else some (Dc ((e.B.length:Int)>4))) (λ(k:Bool)=>if k=true then some false else Bb (zc6 e.x) λg=>if Dc (g.2>e.c)then some false else bindC (loopO (λ(a:Int × Int × Int)=>if Dc (a.2.2<(e.t.length:Int))then Bb (idx e.t a.2.2) λd=>Bb (zc6 d) λf=>Bb (if Dc ((d.length:Int)=0)then some true else Bb (zc1 d) λl=>if !l then some true else if Dc (f.2>=a.1)then some true else some (Dc (f.2>e.c))) (λ(m:Bool)=>if m=true then some (.done (.done false))else some (.go (f.1,I6.wrap (a.2.1+(d.length:Int)),I6.wrap (a.2.2+1))))else some (.done (.go a.2.1))) (g.1,(e.x.length:Int),(0:Int))) (λ(n:Int)=>bindC (loopO (λ(b:Int)=>if Dc (b<(e.B.length:Int))then Bb (Bb (idx e.B b) λh=>Bb (zt h 0 e.c) λo=>if !o then some true else if Dc (b>0)then Bb (idx e.B (I6.wrap (b - 1))) λp=>some (Dc (p>=h))else some false) (λ(q:Bool)=>if q=true then some (.done (.done false))else some (.go (I6.wrap (b+1))))else some (.done (.go ()))) (0:Int)) (λ(s:Unit)=>some (Dc (n<=400)))))
def zcd:Cn Pg 29 [.agg #[U0,U1,iv e.c,U2]] [] [(U0,lc e.x),(U1,lc e.t),(U2,lc e.B)] (zbX e) (λr (_:Unit)=>.bool r) λ_ _=>[]:=Ch Tryz.func29 r λw S Z=>by
 refine Sr<|Fo (Bx r (Ca ⟨Ob Z.1,Ob Z.2.1,Op',Ob Z.2.2.1,⟨⟩⟩)) λC=>Qs 1 r<|Nx<|Sq<|Sq<|Jv [1] (λT=>[(32,.bool T)]) r1 (?_) λD=>?_
 ·refine Dt Z 3 [0,0] r<|Cc Z [] [100] zsH r r2 λE F _=>Qs 2 r<|It (λj=>Vv (Kg Z (Gc j<|Gz)) 6 [0,0,0,0,0] r<|Of 4 r r r<|Yo (Pt r r)<|Qs 1 r<|Of 4 r r r<|Yo (Pt r r)<|Nl<|Bg () [0]) λj=>Vv (Kg Z (Gc j<|Gz)) 6 [0,0,0,0,0,101,0,0] r<|It (λb=>Vv (Kg Z (Gc b<|Gz)) 6 [0,0,0,0,0] r<|Of 4 r r r<|Yo (Pt r r)<|Nl<|Bg () [0]) λb=>Vv (Kg Z (Gc b<|Gz)) 2 [0,0,0,0] r<|Bi λG n=>Fg (gdA (zf b)) (Cl [] zq n r r1) λ_=>Vv (Kg Z (Gc b<|Gz)) 3 [0,0] r<|It (λf=>Of 4 (zh f) r r<|Yo (Pt f r)<|Nl<|Bg () [0]) λf=>?_
  exact Vv (Kg Z (Gc f<|Gz)) 5 [0,0,0,0,0,102,0,0] r<|Nl<|Bg () [0]
 refine Ne<|Wc r (λo=>Dw Z 4 [] r<|Wv<|Rq) λo=>Sn<|Dt Z 4 [0,0] r<|Cc Z [] [100] zjE r r2 λH I _=>Qs 5 r<|Nx<|Dw Z 8 [0,0] r<|Wc r (λp=>Dw Z 4 [] r<|Wv<|Rq) λp=>Sn<|Dw Z 12 [0,0,100] r<|Ju [1] (λT=>[(5,iv T)]) r1 (?_) λJ=>?_
 ·refine Wb<|Lu [1] (λT=>[(3,iv T.1),(5,iv T.2.1),(6,iv T.2.2)]) r1 λK=>Dw Z 9 [0,0,101] r<|Wc r (λq=>?_) λq=>?_
  ·refine Sn<|Dt Z 7 [0,0] r<|Bi λL k=>Yo (Ix ke59 (Bc Z.2.1) k r)<|?_
   have g:=Bj 0 Z.2.1 k r;refine Yo (Lz kk58 Z.2.1 k r)<|Qs 1 r<|Nx<|Sr<|Qs 1 r<|Cc (Bq g<|Z) [] [100] zjE r r2 λM N _=>Qs 5 r<|Nx<|Sq<|Sq<|Jv [1,5,6,7,8] (λT=>[(81,.bool T)]) r1 (?_) λO=>?_
   ·exact Dt (Bq g<|Z) 5 [100] r<|It (λd=>Vv (Kg Z (Gc d<|Gz)) 5 [0,0,0,0] r<|Of 3 r r r<|Yo (Pt r r)<|Qs 1 r<|Of 4 r r r<|Yo (Pt r r)<|Nl<|Bg () [0]) λd=>Qg 1 (zf d) r r<|Bi λP s=>Fg (gdA (zf d)) (Cl [] zgn s r r1 ⟨(Bc g),⟨⟩⟩) λ_=>Vv (Kg Z (Gc d<|Gz)) 3 [0,0] r<|It (λl=>Vv (Kg Z (Gc l<|Gz)) 5 [0,0,0,0] r<|Of 4 r r r<|Yo (Pt r r)<|Nl<|Bg () [0]) λl=>Vv (Kg Z (Gc l<|Gz)) 5 [0,0,0,0] r<|It (λh=>Of 4 (zh h) r r<|Yo (Pt h r)<|Nl<|Bg () [0]) λh=>Vv (Kg Z (Gc h<|Gz)) 5 [0,0,0,0,0,0,0] r<|Nl<|Bg () [0]
   exact Ne<|Wc r (λu=>Dw Z 4 [] r<|Wv<|Bu<|Rq) λu=>Sn<|Dt (Bq g<|Z) 11 [100] r<|Nl<|Bn<|Ne<|Rg<|Qs 3 r<|Nl<|Lg () [0]
  exact We<|Jg () [0]
 refine Ne<|Dw Z 5 [] r<|Jn Unit [5] [] (λ_ _=>[]) (λ_ _=>[]) r2 r2 (?_) λQ R=>?_
 ·refine Wb<|Lu [1,5] (λT=>[(10,iv T)]) r1 λU=>Dw Z 9 [0,0,102] r<|Wc r (λv=>?_) λv=>?_
  ·refine Sn<|Sq<|Wb<|Sq<|Jv [1,5,10] (λT=>[(120,.bool T)]) r1 (?_) λV=>?_
   ·refine Dz 1 [] [] r hMix<|Aj Z [0,1,2] [] [0,0] r<|Ai λW m=>Ak (Kx Z (Xc m<|Xz)) [3,4,5,6] [] [102,0,302,0,0,0,0] r<|Ai λX y=>A1 7<|Xe r (Cl [] zq y r r1) λ_=>Aq [8,9] r<|Ia (λa=>Ax [10,11,12] (zh a) r r<|Au [13,14,15,16,17,18,19,20,21,22,23,24] r r<|Ak (Kg Z (Gc a<|Gz)) [25,26] [] [0,0] r<|Az<|Bg () [0]) λa=>Ak (Kg Z (Gc a<|Gz)) [10,11,12] [] [0,0,0] r<|Ia (λi=>Ak (Kg Z (Gc i<|Gz)) [13,14,15,16] [] [0,0,0,0,0,0] r<|Ai λY z=>Ak (Kk Z (Xc z<|Xc m<|Xz) (Gc i<|Gc a<|Gz)) [17,18,19,20,21,22,23,24,25,26] [] [0,102,0,0,302,0,0,0,0,0,0,0,0,102,1,0,302,1,0,0,1,0,1] r<|Az<|Bg () [0]) λi=>?_
    exact Ak (Kg Z (Gc i<|Gc a<|Gz)) [13,14,15,16,17,18,19,20,21,22,23,24,25,26] [] [0,0,0,0,0,0,0,0,0,0,0,0,1,0,1] r<|Az<|Bg () [0]
   exact Ne<|Wc r (λA=>Dw Z 4 [] r<|Wr<|Bu<|Rq) λA=>Sk<|Bn<|Ne<|Rg<|Qs 3 r<|Nl<|Lg () [0]
  exact We<|Jq
 exact Ne<|Dw Z 6 [] r<|Wr<|Rq
def zbU (e:Aa):Option Aa:=Bb (app 48 ([]:List Ac) e.x) λb=>Bb (app 8 ([]:List Int) e.B) λd=>bindC (loopO (λ(a:Int × List (List Ac))=>if Dc (a.1<(e.t.length:Int))then Bb (idx e.t a.1) λf=>Bb (app 48 ([]:List Ac) f) λg=>Bb (app 24 a.2 ([g])) λh=>some (.go (I6.wrap (a.1+1),h))else some (.done (.go a.2))) ((0:Int),([]:List (List Ac)))) (λ(i:List (List Ac))=>some (⟨b,i,e.c,d⟩:Aa))
def zb3:Cn Pg 62 [.agg #[U0,U1,iv e.c,U2]] [] [(U0,lc e.x),(U1,lc e.t),(U2,lc e.B)] (zbU e) (λr (X:Value × Value × Value)=>.agg #[X.1,X.2.1,iv r.c,X.2.2]) λr X=>[.own X.1 (lc r.x),.own X.2.1 (lc r.t),.own X.2.2 (lc r.B)]:=Ch Tryz.func62 r λw S Z=>by
 refine Sr<|Fo (Bx r (Ca ⟨Ob Z.1,Ob Z.2.1,Op',Ob Z.2.2.1,⟨⟩⟩)) λs=>Fo (Al kz62 r) λu=>Nx<|Sq<|Wi λv g=>Wi λy h=>Dz 2 [] [] r hMix<|Aj Z [1,2,4,5,7,8] [] [0,1,0,1,0,1] r<|Ts (Sc 6 r (λ_ _ I=>Bs ([]:List Int) ke60 kz3) (Sc 11 r (λ_ _ I=>Al kz62 r) Sz)) r<|Me 0 r (λ_ _ I=>Bs ([]:List Ac) ke58 kz117) λz=>Me 3 r (λ_ _ I=>Ap [0] g ke58 kz117 r (Bc (I Z.1))) λa=>Mc λA=>Me 9 r (λ_ _ I=>Ap [0] h ke60 kz3 r (Bc (I Z.2.2.1))) λb=>Mi 10 r (λ_ _ I=>Bd kp62 kz62 (Pc r (Co 1)<|Pc r (Cp r)<|Pc r (Co 0)<|Pz) r)<|Mc λf=>?_
 refine Mo<|A1 12<|Xu r (Sb 0 kk62 r (Ca ⟨Ow' 2,Op',Op',Ow' 1,⟨⟩⟩) r)<|Az<|Ne<|Dw Z 5 [] r<|Jn Value [2,3] [3,2,1] (λ_ _=>[]) (λT X=>[.box f 62 [a,X,iv e.c,b],.own X (lc T)]) r2 r2 (?_) λC i=>?_
 ·refine Wb<|Nw 1<|Lp Value [1,2,3] [5,4,3,2] (λT _=>[(4,iv T.1)]) (λT X=>[.box f 62 [a,X,iv e.c,b],.own X (lc T.2)]) (.slice none 0 0) [5,4,3,2,1,0] r2 r2 λD j=>Dw Z 9 [0,0,101] r<|Wc r (λk=>?_) λk=>?_
  ·refine Sn<|Sq<|Wb<|Dz 6 [5,4] [10,12] r hMix<|Aj Z [0,1,3,4,5] [0,7168] [0,1,0,0] r<|Ai λE d=>Ay 6 r (Ix ke59 (Bc Z.2.1) d r)<|?_
   have l:=Bj 0 Z.2.1 d r;exact Ay 7 r (Lz kk58 Z.2.1 d r)<|A1 2<|Xe r (Bs ([]:List Ac) ke58 kz117) λF=>Ai λm n=>A1 8<|Xe r (Ap [0] n ke58 kz117 r (Bc l)) λo=>A1 9<|Xe r (Bk [.raw o] ke59 kz58 r (Qc (Co 0)<|Qz)) λG=>Ka (Ha [0,0] ([m]:List (List Ac)) r (Cf Cz))<|Ai λH p=>A1 10<|Xe r (Aw [1,0] p ke59 kz58 r) λq=>Aj Z [11] [] [0] r<|A1 12<|Xu r (Sb 1 kk59 r (Co 0) r)<|Az<|Bn<|Ne<|Rg<|Qs 3 r<|Nl<|Lg q [2,2,2,2,1,0]
  exact We<|Jg j [1,1,1,1,1]
 exact Ne<|Dt Z 3 [3] r<|Fu (Sb 0 kk62 r (Ca ⟨Ow' 1,Ow' 4,Op',Ow' 2,⟨⟩⟩) r)<|Nx<|Wr<|Rj (a,i,b) [1,3,1] [0] r
def zdI (l:List Ac) (e:Ac):Option (List Ac):=bindC (loopO (λ(a:Bool × Int × List Ac)=>if Dc (a.2.1<(l.length:Int))then Bb (if !a.1 then Bb (idx l a.2.1) λd=>Bb (zdh e d) λf=>some f else some false) (λ(g:Bool)=>bindC (if g=true then Bb (app 48 a.2.2 ([e])) λh=>some (.go (true,h))else some (.go (a.1,a.2.2))) (λ(c:Bool × List Ac)=>Bb (idx l a.2.1) λi=>Bb (app 48 c.2 ([i])) λj=>some (.go (c.1,I6.wrap (a.2.1+1),j))))else some (.done (.go (a.1,a.2.2)))) (false,(0:Int),([]:List Ac))) (λ(b:Bool × List Ac)=>bindC (if !b.1 then Bb (app 48 b.2 ([e])) λk=>some (.go k)else some (.go b.2)) (λ(m:List Ac)=>some m))
def zsO {e:Ac} :Cn Pg 132 [U0,.agg #[strV e.j,iv e.c,.bool e.P,strV e.M]] [] [(U0,lc l)] (zdI l e) (λ_ (X:Value)=>X) λr X=>[.own X (lc r)]:=Ch Tryz.func132 r λw S Z=>by
 refine Sr<|Fo (Bx r (Cp r)) λy=>Qs 1 r<|Nx<|Sr<|Fo (Bs ([]:List Ac) ke58 kz117) λd=>Qs 1 r<|Nx<|Dw Z 9 [] r<|Jn Value [3] [1] (λT X=>[(5,X),(6,.bool T.1)]) (λT X=>[.own X (lc T.2)]) r2 r2 (?_) λz f=>?_
 ·refine Wb<|Lp Value [0,3] [1] (λT X=>[(5,X),(6,.bool T.1),(7,iv T.2.1)]) (λT X=>[.own X (lc T.2.2)]) (.slice (some ⟨d,0,none⟩) 0 0) [1,0] r2 r2 λA b=>Dw Z 8 [100] r<|Wc r (λg=>?_) λg=>?_
  ·refine Sn<|Dw Z 4 [] r<|Jv [0,3,5,6,7] (λT=>[(24,.bool T)]) r1 (?_) λB=>?_
   ·exact Dz 2 [] [] r hMix<|Aq [0,1,2] r<|Ia (λa=>Ak (Kg Z (Gc a<|Gz)) [3,4,5] [] [0,0,0,0] r<|Ai λC h=>Ak (Kk Z (Xc h<|Xz) (Gc a<|Gz)) [6,7] [] [0,100,0,0,300,0,0] r<|Ai λD i=>A1 8<|Xeg (gdA (zu a)) r (Cl [] zfM i r r1) λ_=>Ay 9 r (Pt a r)<|Az<|Bg () [0,0]) λa=>Ax [3,4,5,6,7,8] (zE a) r r<|Ay 9 r (Pf a r)<|Az<|Bg () [0,0]
   exact Ne<|Jn Value [0,3,7] [0] (λT X=>[(5,X),(6,.bool T.1)]) (λT X=>[.own X (lc T.2)]) r2 r2 (Wc r (λk=>Dt Z 4 [0] r<|Fo (Bs [e] ke58 kz117) λE=>Bi λF m=>Fo (Ap [2] m ke58 kz117 r (Oc 0 r)) λn=>Qs 1 r<|Nx<|Rg<|Qs 1 r<|Nl<|Jg n [2,0]) λk=>Sk<|Jg b [0,0]) λG H=>Ne<|Rg<|Qs 3 r<|Bi λo p=>Vv (Kx Z (Xc p<|Xz)) 2 [100,0,300,0,0] r<|Fo (Bs [o] ke58 kz117) λI=>Bi λJ q=>Fo (Ap [2] q ke58 kz117 r (Oc 0 r)) λs=>Qs 1 r<|Nl<|Bn<|Ne<|Rg<|Qs 3 r<|Nl<|Lg s [2,0]
  exact We<|Jg b [0,0]
 exact Ne<|Dw Z 6 [] r<|Jn Value [] [] (λ_ X=>[(5,X)]) (λT X=>[.own X (lc T)]) r2 r2 (Wc r (λt=>Dt Z 3 [0] r<|Fo (Bs [e] ke58 kz117) λK=>Bi λL u=>Fo (Ap [2] u ke58 kz117 r (Oc 0 r)) λv=>Qs 1 r<|Nl<|Jg v [0]) λt=>Sk<|Jg f [1]) λN x=>Ne<|Dw Z 5 [] r<|Wr<|Re x [0]
def zb6 (e:Aa) (l:List Op):Option (Aa × Bool):=Bb (zbX e) λh=>if !h then some ((⟨[],[],0,[]⟩:Aa),false)else Bb (zbU e) λa=>Bb (zdg l) λi=>if !i then some (a,false)else bindC (loopO (λ(b:Int × List Ac)=>if Dc (b.1<(l.length:Int))then bindC (loopO (λ(d:Bool × Int)=>if Dc (d.2<(l.length:Int))then Bb (if d.1=true then Bb (idx l d.2) λk=>Bb (idx l b.1) λm=>some (!(Dc (k.j=m.j)))else some false) (λ(n:Bool)=>some (.go (n,I6.wrap (d.2+1))))else some (.done (.go d.1))) (true,I6.wrap (b.1+1))) (λ(o:Bool)=>bindC (if o=true then Bb (idx l b.1) λf=>Bb (zdI b.2 (⟨f.j,I6.wrap (a.c+1),f.P,f.M⟩:Ac)) λp=>some (.go p)else some (.go b.2)) (λ(q:List Ac)=>some (.go (I6.wrap (b.1+1),q))))else some (.done (.go b.2))) ((0:Int),a.x)) (λ(g:List Ac)=>Bb (zbX (⟨g,a.t,I6.wrap (a.c+1),a.B⟩:Aa)) λs=>if !s then some (a,false)else some ((⟨g,a.t,I6.wrap (a.c+1),a.B⟩:Aa),true))
def zgb {l:List Op} :Cn Pg 71 [.agg #[U0,U1,iv e.c,U2],U3] [] [(U0,lc e.x),(U1,lc e.t),(U2,lc e.B),(U3,lc l)] (zb6 e l) (λr (X:Value × Value × Value)=>.tuple #[.agg #[X.1,X.2.1,iv r.1.c,X.2.2],.bool r.2]) λr X=>[.own X.1 (lc r.1.x),.own X.2.1 (lc r.1.t),.own X.2.2 (lc r.1.B)]:=Ch Tryz.func71 r λw S Z=>by
 refine Sr<|Fo (Bx r (Ca ⟨Ob Z.1,Ob Z.2.1,Op',Ob Z.2.2.1,⟨⟩⟩)) λC=>Fo (Al kz62 r) λD=>Qs 1 r<|Nx<|Dt Z 4 [1] r<|Cc Z [] [100,101,102] zcd r r2 λE F _=>Qs 1 r<|Nx<|Wc r (λi=>Sr<|Yo (Bd kp62 kz62 (Pz) r)<|Fu (Sb 0 kk62 r (Cp r) r)<|Qs 1 r<|Nx<|Wv<|Ni 4<|Ni 1<|Ni 1<|Rj ((.slice none 0 0),(.slice none 0 0),(.slice none 0 0)) [2,1,0] [3] r) λi=>Sn<|Dt Z 3 [1] r<|Cc Z [] [100,101,102] zb3 r r2 λd j a=>Fo (Al kz62 r) λf=>Fu (Sb 0 kk62 r (Ca ⟨Ow' 1,Ow' 2,Op',Ow' 3,⟨⟩⟩) r)<|Nx<|Dt Z 4 [] r<|Cc Z [] [103] zfB r r2 λG H _=>?_
 refine Qs 1 r<|Nx<|Wc r (λk=>Dt Z 3 [0] r<|Fu (Sb 4 kk62 r (Ca ⟨Ow' 1,Ow' 2,Op',Ow' 3,⟨⟩⟩) r)<|Qs 1 r<|Nx<|Wv<|Rj (a.1,a.2.1,a.2.2) [1,1,1] [4] r) λk=>Sn<|Dt Z 6 [0,0,0] r<|Fu (Sb 0 kk3 r (Cp r) r)<|Nx<|Dw Z 5 [] r<|Jn Value [2,4,6] [5,4,2,2] (λ_ _=>[]) (λT X=>[.box f 62 [X,a.2.1,iv (I6.wrap (d.c+1)),a.2.2],.own X (lc T)]) r2 r2 (?_) λI m=>?_
 ·refine Wb<|Lp Value [1,2,4,6] [5,4,2,2] (λT _=>[(7,iv T.1)]) (λT X=>[.box f 62 [X,a.2.1,iv (I6.wrap (d.c+1)),a.2.2],.own X (lc T.2)]) a.1 [5,4,2,2,0,0] r2 r2 λJ h=>Dw Z 8 [103] r<|Wc r (λn=>?_) λn=>?_
  ·refine Sn<|Dw Z 13 [] r<|Ju [1,2,4,6,7] (λT=>[(8,.bool T)]) r1 (?_) λK=>?_
   ·refine Wb<|Lu [1,2,4,6,7] (λT=>[(8,.bool T.1),(9,iv T.2)]) r1 λL=>Dw Z 8 [103] r<|Wc r (λo=>?_) λo=>?_
    ·refine Sn<|Sq<|Wb<|Jv [1,2,4,6,7,9] (λT=>[(8,.bool T)]) r1 (?_) λM=>?_
     ·refine Dz 6 [] [] r hMix<|Aq [0,1] r<|Ia (λb=>?_) λb=>?_
      ·exact Ak (Kg Z (Gc b<|Gz)) [2,3] [] [0,0] r<|Ai λN p=>Ak (Kk Z (Xc p<|Xz) (Gc b<|Gz)) [4,5,6,7,8] [] [0,103,0,0,104,0,0,0,303,0,0,0,0] r<|Ai λO q=>Ak (Kk Z (Xc q<|Xz) (Gc b<|Gz)) [9,10,11,12,13,14] [] [0,103,0,0,104,0,0,0,303,0,0,0,0] r<|Az<|Bg () [0,0,0,0,0,0]
      exact Ax [2,3,4,5,6,7,8,9,10,11,12] (zE b) r r<|Ay 13 r (Pf b r)<|Aq [14] r<|Az<|Bg () [0,0,0,0,0,0]
     exact Bn<|Ne<|Rg<|Qs 3 r<|Nl<|Lg () [0,0,0,0,0,0]
    exact We<|Jg () [0,0,0,0,0,0]
   refine Ne<|Dw Z 4 [] r<|Jn Value [1,2,4,6,7] [0,0,0,0] (λ_ _=>[]) (λT X=>[.box f 62 [X,a.2.1,iv (I6.wrap (d.c+1)),a.2.2],.own X (lc T)]) r2 r2 (?_) λP s=>?_
   ·refine Wc r (λu=>?_) λu=>?_
    ·exact Dz 6 [4] [22] r hMix<|Aj Z [0,1,2,3] [0,7340032] [0,0] r<|Ai λQ v=>Ak (Kx Z (Xc v<|Xz)) [4,5,6,7,8,9,10,11,12,13,14,15,16,17,18] [0,0,0,0,7864320] [103,0,104,0,0,303,0,0,0,0,103,0,104,0,0,303,0,1,103,0,104,0,0,303,0,2] r<|Ay 19 r (Bd kp117 kz117 (Pc r (Cp r)<|Pc r (Cp r)<|Pc r (Cp r)<|Pc r (Cp r)<|Pz) r)<|Ai λR y=>A1 20<|Xe r (Cl [] zsO y r r1 ⟨(Oc 5 r),⟨⟩⟩) λz=>Aj Z [21] [] [0] r<|A1 22<|Xu r (Sb 1 kk58 r (Co 0) r)<|Az<|Jg z [2,2,2,2,1,0]
    exact Sk<|Jg h [0,0,0,0,0,0]
   exact Bn<|Ne<|Rg<|Qs 3 r<|Nl<|Lg s [0,0,0,0,0,0]
  exact We<|Jg h [0,0,0,0,0,0]
 exact Ne<|Dt Z 4 [4] r<|Cc Z [] [5,2,3] zcd r r2 λU V _=>Qs 1 r<|Nx<|Wc r (λA=>Dt Z 3 [0] r<|Fo (Cl [] zb3 j r r1 ⟨(Bc Z.1),(Bc Z.2.1),(Bc Z.2.2.1),⟨⟩⟩) λg=>Fu (Sb 4 kk62 r (Ca ⟨Ow' 0,Ow' 1,Op',Ow' 2,⟨⟩⟩) r)<|Qs 1 r<|Nx<|Wv<|Rj (g.1,g.2.1,g.2.2) [0,0,0] [4] r) λA=>Sn<|Dt Z 3 [4] r<|Fu (Sb 1 kk62 r (Ca ⟨Ow' 5,Ow' 2,Op',Ow' 3,⟨⟩⟩) r)<|Qs 1 r<|Nx<|Wr<|Rj (m,a.2.1,a.2.2) [5,2,2] [1] r
def zgi (s:Ae) (n:Int):Option Ae:=bindC (loopO (λ(d:Int × Int × List Ah)=>if Dc (d.2.1<(s.u.length:Int))then bindC (Bb (idx s.u d.2.1) λh=>bindC (if !h.U then if Dc (d.1<1)then some (.done (.go (d.1,d.2.2)))else some (.go (I6.wrap (d.1 - 1)))else some (.go d.1)) (λ(v:Int)=>Bb (app 48 d.2.2 ([(⟨h.s,h.A,h.c,h.O,true⟩:Ah)])) λw=>some (.go (v,w)))) (λ(p:Int × List Ah)=>some (.go (p.1,I6.wrap (d.2.1+1),p.2)))else some (.done (.go d.2.2))) (n,(0:Int),([]:List Ah))) (λ(o:List Ah)=>bindC (loopO (λ(e:Int × List Af)=>if Dc (e.1<(e.2.length:Int))then Bb (idx e.2 e.1) λf=>bindC (loopO (λ(b:Int × Int × List Ac × List Int × List (List Ac))=>if Dc (b.2.1<(o.length:Int))then bindC (Bb (idx o b.2.1) λi=>if !(Dc (i.s=f.q))then some (.go (b.1,b.2.2.1,b.2.2.2.1,b.2.2.2.2))else Bb (zdF s.m f.q) λy=>Bb (zct y i.A i.c i.O) λz=>Bb (zb6 (⟨b.2.2.1,b.2.2.2.2,b.1,b.2.2.2.1⟩:Aa) z.1) λj=>some (.go (j.1.c,j.1.x,j.1.B,j.1.t))) (λ(k:Int × List Ac × List Int × List (List Ac))=>some (.go (k.1,I6.wrap (b.2.1+1),k.2.1,k.2.2.1,k.2.2.2)))else some (.done (.go (b.1,b.2.2.1,b.2.2.2.1,b.2.2.2.2)))) (f.G,(0:Int),([]:List Ac),([]:List Int),f.g.t)) (λ(l:Int × List Ac × List Int × List (List Ac))=>Bb (zbU (⟨l.2.1,l.2.2.2,l.1,l.2.2.1⟩:Aa)) λD=>some (.go (I6.wrap (e.1+1),(e.2.set e.1.toNat (⟨f.q,f.J,f.G,D⟩:Af)))))else some (.done (.go e.2))) ((0:Int),s.a)) (λ(E:List Af)=>some (⟨s.F,s.m,s.C,E,o,s.L,I6.wrap (s.A+1)⟩:Ae)))
def zpw {s:Ae} {n:Int} :Cn Pg 113 [.agg #[strV s.F,strV s.m.K,U0,iv s.m.H,iv s.C.I,U1,U2,U3,U4,iv s.A],iv n] [.own U0 (lc s.m.D),.own U1 (lc s.C.r),.own U2 (lc s.a),.own U4 (lc s.L)] [(U3,lc s.u)] (zgi s n) (λr (X:Value × Value × Value × Value × Value)=>.agg #[strV r.F,strV r.m.K,X.1,iv r.m.H,iv r.C.I,X.2.1,X.2.2.1,X.2.2.2.1,X.2.2.2.2,iv r.A]) λr X=>[.own X.1 (lc r.m.D),.own X.2.1 (lc r.C.r),.own X.2.2.1 (lc r.a),.own X.2.2.2.1 (lc r.u),.own X.2.2.2.2 (lc r.L)]:=Ch Tryz.func113 r λw S Z=>by
 refine Sr<|Fo (Bx r (Ca ⟨Op',Op',Ow' 0,Op',Op',Ow' 1,Ow' 2,Ob Z.1,Ow' 3,Op',⟨⟩⟩)) λP=>Fo (Al kz33 r) λQ=>Nx<|Sr<|Fo (Bs ([]:List Ah) ke31 kz77) λR=>Qs 1 r<|Nx<|Dw Z 5 [] r<|Jn Value [2,4] [2,1,1,1,1,1] (λ_ X=>[(5,X)]) (λT X=>[.own X (lc T)]) r2 r2 (?_) λU o=>?_
 ·refine Wb<|Lp Value [2,4] [2,1,1,1,1,1] (λT X=>[(1,iv T.1),(5,X),(6,iv T.2.1)]) (λT X=>[.own X (lc T.2.2)]) (.slice (some ⟨R,0,none⟩) 0 0) [2,1,1,1,1,1,0] r2 r2 λS4 z=>Dw Z 9 [0,0,100] r<|Wc r (λV=>?_) λV=>?_
  ·refine Sn<|Sq<|Jn Value [2,4,6] [0,0,0,0,0,0] (λT X=>[(1,iv T.1),(5,X)]) (λT X=>[.own X (lc T.2)]) r2 r2 (?_) λT9 W=>?_
   ·refine Dt Z 6 [0,0] r<|Bi λk Y=>Vv (Kx Z (Xc Y<|Xz)) 2 [100,0,300,0,0] r<|Fo (Al kz77 r) λaq=>Fu (Sb 0 kk77 r (Cp r) r)<|Nx<|Dw Z 7 [0,0] r<|Ju [2,4,5,6,7] (λT=>[(1,iv T)]) r1 (Wc r (λaa=>Dw Z 6 [] r<|Wc r (λab=>Wx<|Tx<|Jd<|Tx<|Be<|Jg z [1,1,1,1,1,1,1]) λab=>Sn<|Rg<|Qs 3 r<|Nl<|Jg () [0,0,0,0,0,0,0,0]) λaa=>Sk<|Jg () [0,0,0,0,0,0,0,0]) λar=>Ne<|Dt Z 3 [0] r<|Fu (Sb 0 kk4 r (Cp r) r)<|Nx<|Dt Z 3 [0] r<|Fo (Bs [(⟨k.s,k.A,k.c,k.O,true⟩:Ah)] ke31 kz77) λau=>?_
    exact Bi λav ac=>Fo (Ap [8] ac ke31 kz77 r (Oc 0 r)) λad=>Qs 1 r<|Nl<|Bn<|Jg ad [3,3,3,3,3,3,0]
   exact Ne<|Rg<|Qs 3 r<|Nl<|Lg W [0,0,0,0,0,0,0]
  exact We<|Jg z [0,0,0,0,0,0,0]
 refine Ne<|Dt Z 4 [0] r<|Fu (Sb 0 kk31 r (Co 6) r)<|Nx<|Dt Z 6 [0,0,0] r<|Fu (Sb 0 kk3 r (Cp r) r)<|Nx<|Dw Z 5 [] r<|Jn Unit [2,4] [0,0,0,0,2,1] (λ_ _=>[]) (λT _=>[.own U2 (lc T)]) r2 r2 (?_) λaw ax=>?_
 ·refine Wb<|Lp Unit [2,4,5] [0,0,0,0,2,1] (λT _=>[(8,iv T.1)]) (λT _=>[.own U2 (lc T.2)]) () [0,0,0,0,2,1,0] r2 r2 λE ay=>Dw Z 9 [0,0,6] r<|Wc r (λae=>?_) λae=>?_
  ·refine Sn<|Dt Z 7 [0,0] r<|Bi λb h=>Yo (Ix ke30 (Oc 6 r) h r)<|TO.fact (zcy (Can.own 6 r) h) λaf=>Gt (X:=Value × Value × Value) (Ho 3 [6] h r r1) λd=>Yo (Lh 0 kk64 h r)<|Fo (Al kz64 r) λag=>Fu (Sb 0 kk64 r (Ca ⟨Op',Op',Op',Ow' 2,Ow' 3,Op',Ow' 4,⟨⟩⟩) r)<|Nx<|Dt Z 7 [0,0,0,0,0] r<|Yo (Bd kp62 kz62 (Pc r (Co 3)<|Pc r (Cp r)<|Pz) r)<|Fo (Al kz62 r) λl=>Fu (Sb 0 kk62 r (Ca ⟨Op',Ow' 4,Op',Op',⟨⟩⟩) r)<|Nx<|Dw Z 5 [] r<|Jn (Value × Value × Value) [2,4,5,8,10] [6,6,2,5,5,5,5,2,2,2] (λ_ _=>[]) (λT X=>[.box l 62 [X.1,X.2.2,iv T.1,X.2.1],.own X.1 (lc T.2.1),.own X.2.1 (lc T.2.2.1),.alt X.2.2 (lc T.2.2.2) d.2.1 (lc b.g.t)]) r2 r2 (?_) λaz aA=>?_
   ·refine Wb<|Nw 4<|Nw 1<|TW.conv (St.alt_new d.2.1 (lc b.g.t))<|Lp (Value × Value × Value) [2,4,5,8,9,10] [9,9,4,4,7,7,7,7,4,4,4] (λT _=>[(11,iv T.2.1)]) (λT X=>[.box l 62 [X.1,X.2.2,iv T.1,X.2.1],.own X.1 (lc T.2.2.1),.own X.2.1 (lc T.2.2.2.1),.alt X.2.2 (lc T.2.2.2.2) d.2.1 (lc b.g.t)]) (.slice none 0 0,.slice none 0 0,d.2.1) [9,9,4,4,7,7,7,7,4,4,4,3,2,1,0] r2 r2 λp f=>Dw Z 8 [6] r<|Wc r (λah=>?_) λah=>?_
    ·refine Sn<|Sq<|Jn (Value × Value × Value) [2,4,5,8,9,10,11] [0,0,0,0,0,0,0,0,0,0,0] (λ_ _=>[]) (λT X=>[.box l 62 [X.1,X.2.2,iv T.1,X.2.1],.own X.1 (lc T.2.1),.own X.2.1 (lc T.2.2.1),.alt X.2.2 (lc T.2.2.2) d.2.1 (lc b.g.t)]) r2 r2 (?_) λaB v=>?_
     ·refine Wb<|Sq<|Sq<|Dz 15 [] [] r hMix<|Aq [0,1] r<|Ai λaC M=>Ak (Kx Z (Xc M<|Xz)) [2,3,4,5,6,7] [] [6,0,7,0,0,206,0,0,0,2] r<|Az<|Ne<|Wc r (λai=>Wx<|Tx<|Be<|Jg (f.1,f.2.1,f.2.2) [0,0,0,0,0,0,0,0,0,0,0,0,0,0,0]) λai=>Sn<|Sq<|Dz 15 [] [] r hMix<|Ak (Kx Z (Xc M<|Xz)) [0,1,2,3,5,6,7,8,9,10,11,12,13,14,15,16,17,18,19] [] [0,0,0,2,6,0,7,0,0,206,0,1,6,0,7,0,0,206,0,2,6,0,7,0,0,206,0,3] r<|Ai λaD aj=>?_
      exact A1 4<|Xe r (Cl [] zhn aj r r1 ⟨(Oc 4 r),⟨⟩⟩) λ_=>Ai λak al=>A1 20<|Xe r (Cl [] zjB al r r1) λam=>Aq [21,22,23,24,25] r<|Az<|Ne<|Dt Z 4 [12] r<|Bi λj an=>Fo (Cl [] zgb an r r1 ⟨(Oc 13 r),(Can.alt 15 10 rfl rfl),(Oc 14 r),(Oc 0 r),⟨⟩⟩) λe=>Qs 3 r<|Fo (Al kz62 r) λao=>Fu (Sb 0 kk62 r (Ca ⟨Ow' 1,Ow' 2,Op',Ow' 3,⟨⟩⟩) r)<|Qs 1 r<|Nx<|Dt Z 2 [0] r<|Fu (Sb 16 kk62 r (Ca ⟨Ow' 1,Ow' 2,Op',Ow' 3,⟨⟩⟩) r)<|Nl<|Bn<|TE.conv (is':=[.box ao 62 [e.1,e.2.1,iv j.1.c,e.2.2],.own e.1 (lc j.1.x),.alt e.2.1 (lc j.1.t) d.2.1 (lc b.g.t),.own e.2.2 (lc j.1.B),.own am (lc ak.1),.box P 33 [strV s.F,strV s.m.K,U0,iv s.m.H,iv s.C.I,U1,U2,o,U4,iv (I6.wrap (s.A+1))],.box Q 33 [strV ([]),strV ([]),.slice none 0 0,iv 0,iv 0,.slice none 0 0,.slice none 0 0,.slice none 0 0,.slice none 0 0,iv 0],.box ag 64 [iv b.q,iv b.J,iv b.G,d.1,d.2.1,iv b.g.c,d.2.2],.own U2 (hl E.2 E.1.toNat [ic b.q,ic b.J,ic b.G,.raw d.1,.raw d.2.1,ic b.g.c,.raw d.2.2]),.own U0 (lc s.m.D),.own U1 (lc s.C.r),.own o (lc U),.own U4 (lc s.L),.own d.1 (lc b.g.x),.own d.2.1 (lc b.g.t),.own d.2.2 (lc b.g.B),.box l 62 [e.1,e.2.1,iv j.1.c,e.2.2],.own f.1 (lc p.2.2.1),.own f.2.1 (lc p.2.2.2.1),.alt f.2.2 (lc p.2.2.2.2) d.2.1 (lc b.g.t)]) (St.alt_own (i:=2) d.2.1 (lc b.g.t) r r)<|Jg (e.1,e.2.2,e.2.1) [5,5,5,5,5,5,5,5,5,5,5,5,1,2,1]
     exact Ne<|Rg<|Qs 3 r<|Nl<|Lg (v.1,v.2.1,v.2.2) [0,0,0,0,0,0,0,0,0,0,0,0,0,0,0]
    exact We<|Jg (f.1,f.2.1,f.2.2) [0,0,1,1,1,1,1,1,1,1,1,1,1,1]
   exact Ne<|Dz 14 [2] [7] r hMix<|Aj Z [0,1,2,3] [] [0,0,9] r<|Ai λN ap=>A1 4<|Xe r (Cl [] zb3 ap r r1 ⟨(Oc 11 r),(Can.alt 13 8 rfl rfl),(Oc 12 r),⟨⟩⟩) λy=>Ab 5 192 r (Ix ke30 (Oc 0 r) h r)<|Ay 6 r (Fp zbi af r)<|A1 7<|Xu r (Sh 3 [.raw y.1,.raw y.2.1,ic N.c,.raw y.2.2] kk62 h r (Ca ⟨Ow' 0,Ow' 1,Op',Ow' 2,⟨⟩⟩) r)<|Az<|Bn<|Ne<|Rg<|Qs 3 r<|Nl<|Ke (Hc [3,0,0,0] (⟨b.q,b.J,b.G,N⟩:Af) h r (Ck (Ck (Ck (Cf (Cf (Ck (Cf Cz))))))))<|Lg () [1,1,1,1,1,1,0]
  exact We<|Jg () [0,0,0,0,0,0,0]
 exact Ne<|Dt Z 3 [0] r<|Fu (Sb 1 kk33 r (Ca ⟨Op',Op',Ow' 2,Op',Op',Ow' 3,Ow' 6,Ow' 4,Ow' 5,Op',⟨⟩⟩) r)<|Nx<|Wr<|Rj (U0,U1,U2,o,U4) [2,2,4,2,2] [1] r
def zfE (s:Ad) (tenant:Int):Option (Ad × Bool):=Bb (zbG s) λd=>if !d then some ((⟨0,[]⟩:Ad),false)else bindC (loopO (λ(a:Int × List As)=>if Dc (a.1<(s.r.length:Int))then Bb (idx s.r a.1) λb=>bindC (if !(Dc (b.s=tenant))then Bb (app 16 a.2 ([b])) λe=>some (.go e)else some (.go a.2)) (λ(f:List As)=>some (.go (I6.wrap (a.1+1),f)))else some (.done (.go a.2))) ((0:Int),([]:List As))) (λ(c:List As)=>if Dc ((c.length:Int)=(s.r.length:Int))then Bb (zef s) λg=>some (g,false)else some ((⟨s.I,c⟩:Ad),true))
def zom {s:Ad} :Cn Pg 169 [.agg #[iv s.I,U0],iv tenant] [] [(U0,lc s.r)] (zfE s tenant) (λr (X:Value)=>.tuple #[.agg #[iv r.1.I,X],.bool r.2]) λr X=>[.own X (lc r.1.r)]:=Ch Tryz.func169 r λw S Z=>by
 refine Sr<|Fo (Bx r (Ca ⟨Op',Ob Z.1,⟨⟩⟩)) λn=>Fo (Al kz29 r) λo=>Qs 1 r<|Nx<|Dt Z 4 [1] r<|Cc Z [] [100] zeZ r r2 λp q _=>Qs 1 r<|Nx<|Wc r (λd=>Sr<|Yo (Bd kp29 kz29 (Pz) r)<|Fu (Sb 0 kk29 r (Cp r) r)<|Qs 1 r<|Nx<|Wv<|Ni 2<|Rj (.slice none 0 0) [0] [1] r) λd=>Sn<|Dt Z 4 [0,1] r<|Yo (Bd kp29 kz29 (Pc r (Cp r)<|Pz) r)<|Fo (Al kz29 r) λa=>Fu (Sb 0 kk29 r (Cp r) r)<|Nx<|Dw Z 5 [] r<|Jn Value [2,4,6] [2,1] (λ_ _=>[]) (λT X=>[.box a 29 [iv s.I,X],.own X (lc T)]) r2 r2 (?_) λt e=>?_
 ·refine Wb<|Nw 2<|Lp Value [1,2,4,6] [3,2] (λT _=>[(7,iv T.1)]) (λT X=>[.box a 29 [iv s.I,X],.own X (lc T.2)]) (.slice none 0 0) [3,2,1,0] r2 r2 λu b=>Dw Z 9 [0,0,100] r<|Wc r (λf=>?_) λf=>?_
  ·refine Sn<|Dt Z 7 [0,0] r<|Bi λg c=>Vv (Kx Z (Xc c<|Xz)) 5 [100,0,101,0,0,300,0,0] r<|Nx<|Jn Value [1,2,4,6,7] [0,0] (λ_ _=>[]) (λT X=>[.box a 29 [iv s.I,X],.own X (lc T)]) r2 r2 (?_) λv h=>?_
   ·refine Wc r (λi=>?_) λi=>?_
    ·exact Dz 4 [3,2] [8,10] r hMix<|Ak (Kx Z (Xc c<|Xz)) [0,1,2,3,4,5,6] [0,1792] [0,1,0,0,100,0,300,0,0] r<|A1 7<|Xe r (Bs [g] ke27 kz67) λx=>Ai λy j=>A1 8<|Xe r (Ap [1] j ke27 kz67 r (Oc 0 r)) λk=>Aj Z [9] [] [0] r<|A1 10<|Xu r (Sb 2 kk27 r (Co 0) r)<|Az<|Jg k [3,3,2,0]
    exact Sk<|Jg b [0,0,0,0]
   exact Bn<|Ne<|Rg<|Qs 3 r<|Nl<|Lg h [0,0,0,0]
  exact We<|Jg b [0,0,0,0]
 exact Ne<|Dw Z 11 [0,2,3,0,0,100] r<|Wc r (λl=>Dt Z 3 [0] r<|Cc Z [] [100] zhT r r2 λz A m=>Fu (Sb 2 kk29 r (Ca ⟨Op',Ow' 0,⟨⟩⟩) r)<|Qs 1 r<|Nx<|Wv<|Rj m [0] [2] r) λl=>Sn<|Dt Z 3 [2] r<|Fu (Sb 1 kk29 r (Ca ⟨Op',Ow' 3,⟨⟩⟩) r)<|Qs 1 r<|Nx<|Wr<|Rj e [3] [1] r
def zho (d:At) (tenant:Int):Option (At × Bool):=Bb (zbg d) λf=>if !f then some ((⟨[],[],0⟩:At),false)else Bb (zeL d) λb=>bindC (loopO (λ(a:Int × List A5)=>if Dc (a.1<(d.D.length:Int))then Bb (idx d.D a.1) λc=>bindC (if !(Dc (c.s=tenant))then Bb (app 24 a.2 ([c])) λg=>some (.go g)else some (.go a.2)) (λ(h:List A5)=>some (.go (I6.wrap (a.1+1),h)))else some (.done (.go a.2))) ((0:Int),([]:List A5))) (λ(e:List A5)=>Bb (if Dc ((e.length:Int)=(d.D.length:Int))then some true else some (Dc (d.H>=1000000))) (λ(i:Bool)=>if i=true then some (b,false)else some ((⟨b.K,e,I6.wrap (b.H+1)⟩:At),true)))
def zql:Cn Pg 170 [.agg #[strV d.K,U0,iv d.H],iv tenant] [] [(U0,lc d.D)] (zho d tenant) (λr (X:Value)=>.tuple #[.agg #[strV r.1.K,X,iv r.1.H],.bool r.2]) λr X=>[.own X (lc r.1.D)]:=Ch Tryz.func170 r λw S Z=>by
 refine Sr<|Fo (Bx r (Ca ⟨Op',Ob Z.1,Op',⟨⟩⟩)) λp=>Fo (Al kz26 r) λq=>Qs 1 r<|Nx<|Dt Z 4 [1] r<|Cc Z [] [100] zfh r r2 λs t _=>Qs 1 r<|Nx<|Wc r (λe=>Sr<|Yo (Bd kp26 kz26 (Pz) r)<|Fu (Sb 0 kk26 r (Cp r) r)<|Qs 1 r<|Nx<|Wv<|Ni 2<|Rj (.slice none 0 0) [0] [1] r) λe=>Sn<|Dt Z 3 [1] r<|Cc Z [] [100] zgm r r2 λu v f=>Fo (Al kz26 r) λx=>Fu (Sb 0 kk26 r (Ca ⟨Op',Ow' 1,Op',⟨⟩⟩) r)<|Nx<|Sr<|Fo (Bs ([]:List A5) ke24 kz72) λg=>Qs 1 r<|Nx<|Dw Z 5 [] r<|Jn Value [2,4,6] [4,3,1,1] (λ_ X=>[(7,X)]) (λT X=>[.own X (lc T)]) r2 r2 (?_) λy h=>?_
 ·refine Wb<|Lp Value [1,2,4,6] [4,3,1,1] (λT X=>[(7,X),(8,iv T.1)]) (λT X=>[.own X (lc T.2)]) (.slice (some ⟨g,0,none⟩) 0 0) [4,3,1,1,0] r2 r2 λz b=>Dw Z 9 [0,0,100] r<|Wc r (λi=>?_) λi=>?_
  ·exact Sn<|Dt Z 7 [0,0] r<|Bi λj c=>Vv (Kx Z (Xc c<|Xz)) 5 [100,0,101,0,0,300,0,0] r<|Nx<|Jn Value [1,2,4,6,8] [0,0,0,0] (λ_ X=>[(7,X)]) (λT X=>[.own X (lc T)]) r2 r2 (Wc r (λk=>Vt (Kx Z (Xc c<|Xz)) 7 [0,0,100,0,300,0,0] r<|Fo (Bs [j] ke24 kz72) λA=>Bi λB l=>Fo (Ap [5] l ke24 kz72 r (Oc 0 r)) λm=>Qs 1 r<|Nl<|Jg m [2,2,2,2,0]) λk=>Sk<|Jg b [0,0,0,0,0]) λC n=>Bn<|Ne<|Rg<|Qs 3 r<|Nl<|Lg n [0,0,0,0,0]
  exact We<|Jg b [0,0,0,0,0]
 exact Ne<|Sq<|Sq<|Jb Unit [4,6,7] [1,1,1,1] (λT _=>[(49,.bool T)]) (λ_ _=>[]) r2 r2 (Dt Z 8 [4,0,0,100] r<|It (λa=>Of 3 (zh a) r r<|Yo (Pt a r)<|Nl<|Bg () [1,1,1,1]) λa=>Vv (Kg Z (Gc a<|Gz)) 4 [0,0,0,0,0,0] r<|Nl<|Bg () [1,1,1,1]) λE F=>Ne<|Wc r (λo=>Dt Z 3 [1] r<|Fu (Sb 0 kk26 r (Ca ⟨Op',Ow' 2,Op',⟨⟩⟩) r)<|Qs 1 r<|Nx<|Wv<|Rj f [2] [0] r) λo=>Sn<|Dt Z 4 [0] r<|Fu (Sb 1 kk24 r (Co 3) r)<|Nx<|Dt Z 6 [0,1,0] r<|Fu (Sb 1 kk3 r (Cp r) r)<|Nx<|Dt Z 3 [1] r<|Fu (Sb 0 kk26 r (Ca ⟨Op',Ow' 3,Op',⟨⟩⟩) r)<|Qs 1 r<|Nx<|Wr<|Rj h [3] [0] r
def zfl (l:List Ah) (id:Int):Option (List Ah):=bindC (loopO (λ(a:Int × List Ah)=>if Dc (a.1<(l.length:Int))then Bb (idx l a.1) λb=>bindC (if !(Dc (b.s=id))then Bb (app 48 a.2 ([b])) λc=>some (.go c)else some (.go a.2)) (λ(d:List Ah)=>some (.go (I6.wrap (a.1+1),d)))else some (.done (.go a.2))) ((0:Int),([]:List Ah))) (λ(e:List Ah)=>some e)
def zk1 {l:List Ah} {id:Int} :Cn Pg 171 [U0,iv id] [] [(U0,lc l)] (zfl l id) (λ_ (X:Value)=>X) λr X=>[.own X (lc r)]:=Ch Tryz.func171 r λw S Z=>by
 refine Dt Z 6 [] r<|Fo (Bs ([]:List Ah) ke31 kz77) λc=>Qs 1 r<|Nx<|Dw Z 5 [] r<|Jn Value [] [] (λ_ X=>[(5,X)]) (λT X=>[.own X (lc T)]) r2 r2 (?_) λk d=>?_
 ·refine Wb<|Lp Value [0,1] [] (λT X=>[(5,X),(6,iv T.1)]) (λT X=>[.own X (lc T.2)]) (.slice (some ⟨c,0,none⟩) 0 0) [0] r2 r2 λm a=>Dw Z 8 [100] r<|Wc r (λe=>?_) λe=>?_
  ·exact Sn<|Dt Z 6 [] r<|Bi λf b=>Vv (Kx Z (Xc b<|Xz)) 5 [100,0,101,0,0,300,0,0] r<|Nx<|Jn Value [0,1,6] [] (λ_ X=>[(5,X)]) (λT X=>[.own X (lc T)]) r2 r2 (Wc r (λg=>Vt (Kx Z (Xc b<|Xz)) 6 [100,0,300,0,0] r<|Fo (Bs [f] ke31 kz77) λn=>Bi λo h=>Fo (Ap [1] h ke31 kz77 r (Oc 0 r)) λi=>Qs 1 r<|Nl<|Jg i [0]) λg=>Sk<|Jg a [0]) λp j=>Bn<|Ne<|Rg<|Qs 3 r<|Nl<|Lg j [0]
  exact We<|Jg a [0]
 exact Ne<|Dw Z 5 [] r<|Wr<|Re d [0]
def zfI (s:Ae) (at_:Int):Option Ae:=Bb (idx s.a at_) λc=>Bb (zfE s.C c.q) λd=>Bb (zho s.m c.q) λe=>Bb (piece s.a 0 at_) λj=>Bb (cutO (s.a.map some) (0:Int) at_) λb=>Bb (app 104 ([]:List Af) b.1) λf=>Bb (piece b.2 (I6.wrap (at_+1)) (b.2.length:Int)) λk=>Bb (cutO b.2 (I6.wrap (at_+1)) (b.2.length:Int)) λg=>Bb (app 104 f g.1) λh=>Bb (zfl s.u c.q) λi=>some (⟨s.F,e.1,d.1,h,i,s.L,I6.wrap (s.A+1)⟩:Ae)
def zoq {s:Ae} :Cn Pg 115 [.agg #[strV s.F,strV s.m.K,U0,iv s.m.H,iv s.C.I,U1,U2,U3,U4,iv s.A],iv at_] [.own U2 (lc s.a),.own U4 (lc s.L)] [(U0,lc s.m.D),(U1,lc s.C.r),(U3,lc s.u)] (zfI s at_) (λr (X:Value × Value × Value × Value × Value)=>.agg #[strV r.F,strV r.m.K,X.1,iv r.m.H,iv r.C.I,X.2.1,X.2.2.1,X.2.2.2.1,X.2.2.2.2,iv r.A]) λr X=>[.own X.1 (lc r.m.D),.own X.2.1 (lc r.C.r),.own X.2.2.1 (lc r.a),.own X.2.2.2.1 (lc r.u),.own X.2.2.2.2 (lc r.L)]:=Ch Tryz.func115 r λw S Z=>by
 refine Sr<|Fo (Bx r (Ca ⟨Op',Op',Ob Z.1,Op',Op',Ob Z.2.1,Ow' 0,Ob Z.2.2.1,Ow' 1,Op',⟨⟩⟩)) λo=>Fo (Al kz33 r) λp=>Nx<|Dt Z 5 [0,1] r<|Bi λq b=>Yo (Ix ke30 (Oc 2 r) b r)<|TO.fact (zcy (Can.own 2 r) b) λc=>Yo (Fp zhb c r)<|Vv (Kx Z (Xc b<|Xz)) 2 [202,0,0] r<|Nx<|Dt Z 5 [0,1] r<|Cc Z [] [101] zom r r2 λt v d=>Qs 3 r<|Fo (Al kz29 r) λx=>Fu (Sb 0 kk29 r (Ca ⟨Op',Ow' 1,⟨⟩⟩) r)<|Qs 1 r<|Nx<|Dt Z 4 [0,0] r<|Fu (Sb 3 kk29 r (Ca ⟨Op',Ow' 1,⟨⟩⟩) r)<|Nx<|Dt Z 5 [0,3] r<|Cc Z [] [100] zql r r2 λy z e=>?_
 refine Qs 3 r<|Fo (Al kz26 r) λB=>Fu (Sb 0 kk26 r (Ca ⟨Op',Ow' 1,Op',⟨⟩⟩) r)<|Qs 1 r<|Nx<|Dt Z 4 [0,0] r<|Fu (Sb 5 kk26 r (Ca ⟨Op',Ow' 1,Op',⟨⟩⟩) r)<|Nx<|Sr<|Fo (Bk [] ke30 kz64 r (Qz)) λE=>Kt (Ha [0] ([]:List Af) r Cz)<|Dv Z 3 [0,6] r<|Bi λG f=>Yo (Y.subs f ke30 (Oc 7 r) r r ⟨_,r⟩)<|Kt (Hm [7] r)<|Bi λJ g=>Bi λM h=>Fo (Av [1,0] g h ke30 kz64 r) λN=>Qs 1 r<|Nx<|Dt Z 7 [0,7] r<|Bi λO i=>Yo (Y.subs i ke30 (Oc 1 r) r ⟨_,r⟩ r)<|Bi λP j=>Bi λQ k=>Fo (Av [0,0] j k ke30 kz64 r) λl=>?_
 exact Dv Z 1 [0] r<|Fu (Sb 7 kk30 r (Co 0) r)<|Nx<|Dt Z 5 [0,7] r<|Cc Z [] [102] zk1 r r2 λR T n=>Dv Z 1 [0] r<|Fu (Sb 8 kk31 r (Co 0) r)<|Nx<|Dt Z 6 [0,8,0] r<|Fu (Sb 8 kk3 r (Cp r) r)<|Nx<|Dt Z 3 [8] r<|Fu (Sb 7 kk33 r (Ca ⟨Op',Op',Ow' 4,Op',Op',Ow' 6,Ow' 1,Ow' 0,Ow' 9,Op',⟨⟩⟩) r)<|Nx<|Wr<|Rj (e,d,l,n,U4) [4,5,1,0,5] [7] r
def zf9 (e:Aa):Option (Aa × Bool):=Bb (zbX e) λb=>if !b then some ((⟨[],[],0,[]⟩:Aa),false)else Bb (zbU e) λa=>Bb (if Dc ((a.x.length:Int)=0)then some true else some (Dc ((a.t.length:Int)>=6))) (λ(d:Bool)=>if d=true then some (a,false)else Bb (app 24 ([a.x]) a.t) λf=>some ((⟨[],f,a.c,a.B⟩:Aa),true))
def zpj:Cn Pg 172 [.agg #[U0,U1,iv e.c,U2]] [] [(U0,lc e.x),(U1,lc e.t),(U2,lc e.B)] (zf9 e) (λr (X:Value × Value × Value)=>.tuple #[.agg #[X.1,X.2.1,iv r.1.c,X.2.2],.bool r.2]) λr X=>[.own X.1 (lc r.1.x),.own X.2.1 (lc r.1.t),.own X.2.2 (lc r.1.B)]:=Ch Tryz.func172 r λw S Z=>by
 refine Sr<|Fo (Bx r (Ca ⟨Ob Z.1,Ob Z.2.1,Op',Ob Z.2.2.1,⟨⟩⟩)) λk=>Fo (Al kz62 r) λl=>Qs 1 r<|Nx<|Dt Z 4 [1] r<|Cc Z [] [100,101,102] zcd r r2 λm n _=>Qs 1 r<|Nx<|Wc r (λd=>Sr<|Yo (Bd kp62 kz62 (Pz) r)<|Fu (Sb 0 kk62 r (Cp r) r)<|Qs 1 r<|Nx<|Wv<|Ni 4<|Ni 1<|Ni 1<|Rj ((.slice none 0 0),(.slice none 0 0),(.slice none 0 0)) [2,1,0] [3] r) λd=>Sn<|Dt Z 3 [1] r<|Cc Z [] [100,101,102] zb3 r r2 λf o a=>Fo (Al kz62 r) λp=>Fu (Sb 0 kk62 r (Ca ⟨Ow' 1,Ow' 2,Op',Ow' 3,⟨⟩⟩) r)<|Nx<|Sq<|Sq<|Jb Unit [2,4] [4,0,0,0,0] (λT _=>[(21,.bool T)]) (λ_ _=>[]) r2 r2 (Dt Z 6 [0,0,1] r<|It (λb=>Of 4 (zh b) r r<|Yo (Pt b r)<|Nl<|Bg () [4,0,0,0,0]) λb=>Vv (Kg Z (Gc b<|Gz)) 5 [0,0,0,0,0,2,0,0] r<|Nl<|Bg () [4,0,0,0,0]) λq s=>?_
 exact Ne<|Wc r (λg=>Dt Z 3 [1] r<|Fu (Sb 0 kk62 r (Ca ⟨Ow' 2,Ow' 3,Op',Ow' 4,⟨⟩⟩) r)<|Qs 1 r<|Nx<|Wv<|Rj (a.1,a.2.1,a.2.2) [2,2,2] [0] r) λg=>Sn<|Dt Z 4 [0,1] r<|Fo (Bk [.raw a.1] ke59 kz58 r (Qc (Co 2)<|Qz)) λu=>Kt (Ha [0,2] ([f.x]:List (List Ac)) r (Cf Cz))<|Qs 1 r<|Nx<|Dt Z 5 [0,2] r<|Bi λv h=>Fo (Aw [0,2] h ke59 kz58 r) λi=>Dv Z 1 [0] r<|Fu (Sb 2 kk59 r (Co 0) r)<|Nx<|Sr<|Fo (Bs ([]:List Ac) ke58 kz117) λj=>Dv Z 1 [0] r<|Fu (Sb 3 kk58 r (Cp r) r)<|Nx<|Dt Z 3 [3] r<|Fu (Sb 2 kk62 r (Ca ⟨Op',Ow' 1,Op',Ow' 4,⟨⟩⟩) r)<|Qs 1 r<|Nx<|Wr<|Rj ((.slice (some ⟨j,0,none⟩) 0 0),i,a.2.2) [0,0,2] [2] r
def zea (l:List (List Ac)):Option (List Ac):=bindC (loopO (λ(a:Int × List Ac)=>if Dc (a.1<(l.length:Int))then Bb (Bb (idx l a.1) λg=>Bb (zc1 g) λi=>if !i then some true else if Dc ((g.length:Int)>400)then some true else some (Dc ((a.2.length:Int)>400))) (λ(j:Bool)=>if j=true then some (.done (.done ([]:List Ac)))else Bb (idx l a.1) λk=>Bb (app 48 ([]:List Ac) k) λc=>bindC (loopO (λ(b:Int × Int × List Ac)=>if Dc (b.2.1<(a.2.length:Int))then bindC (loopO (λ(d:Int × List Ac)=>Bb (if Dc (d.1<(c.length:Int))then Bb (idx c d.1) λm=>Bb (idx a.2 b.2.1) λn=>Bb (zdh m n) λo=>some o else some false) (λ(p:Bool)=>if p=true then Bb (idx c d.1) λq=>Bb (app 48 d.2 ([q])) λs=>some (.go (I6.wrap (d.1+1),s))else some (.done (.go (d.1,d.2))))) (b.1,b.2.2)) (λ(e:Int × List Ac)=>Bb (if Dc (e.1<(c.length:Int))then Bb (idx a.2 b.2.1) λt=>Bb (idx c e.1) λu=>Bb (zdh t u) λv=>some (!v)else some false) (λ(w:Bool)=>bindC (if w=true then some (.go (I6.wrap (e.1+1)))else some (.go e.1)) (λ(x:Int)=>Bb (idx a.2 b.2.1) λy=>Bb (app 48 e.2 ([y])) λz=>some (.go (x,I6.wrap (b.2.1+1),z)))))else some (.done (.go (b.1,b.2.2)))) ((0:Int),(0:Int),([]:List Ac))) (λ(h:Int × List Ac)=>Bb (piece c h.1 (c.length:Int)) λA=>Bb (app 48 h.2 A) λB=>some (.go (I6.wrap (a.1+1),B))))else some (.done (.go a.2))) ((0:Int),([]:List Ac))) (λ(C:List Ac)=>bindC (loopO (λ(f:Int × Int)=>if Dc (f.2<(l.length:Int))then Bb (idx l f.2) λD=>some (.go (I6.wrap (f.1+(D.length:Int)),I6.wrap (f.2+1)))else some (.done (.go f.1))) ((0:Int),(0:Int))) (λ(E:Int)=>if Dc (E>400)then some ([]:List Ac)else some C))
def zjA {l:List (List Ac)} :Cn Pg 226 [U0] [] [(U0,lc l)] (zea l) (λ_ (X:Value)=>X) λr X=>[.own X (lc r)]:=Ch Tryz.func226 r λw S Z=>by
 refine Dt Z 6 [] r<|Fo (Bs ([]:List Ac) ke58 kz117) λj=>Qs 1 r<|Nx<|Dw Z 5 [] r<|Jn Value [0] [] (λ_ X=>[(3,X)]) (λT X=>[.own X (lc T)]) r2 r2 (?_) λT4 k=>?_
 ·refine Wb<|Lp Value [0] [] (λT X=>[(3,X),(4,iv T.1)]) (λT X=>[.own X (lc T.2)]) (.slice (some ⟨j,0,none⟩) 0 0) [0] r2 r2 λS2 m=>Dw Z 8 [100] r<|Wc r (λn=>?_) λn=>?_
  ·refine Sn<|Dw Z 4 [] r<|Jv [0,3,4] (λT=>[(36,.bool T)]) r1 (?_) λT7=>?_
   ·refine Rg<|Qs 2 r<|Bi λE9 c=>Yo (Ix ke59 (Bc Z.1) c r)<|?_
    have o:=Bj 0 Z.1 c r;refine Yo (Lz kk58 Z.1 c r)<|Cc (Bq o<|Z) [] [100] zgn r r2 λaa ab _=>Qs 2 r<|It (λd=>Vv (Kg Z (Gc d<|Gz)) 8 [0,0,0,0,0,0,0] r<|Of 3 r r r<|Yo (Pt r r)<|Nl<|Bg () [0]) λd=>Vv (Kk Z (Xc c<|Xz) (Gc d<|Gz)) 3 [0,0,0,100,0] r<|?_
    have p:=Bj 0 Z.1 c r;exact Yg (gdA (zf d)) (Lz kk58 Z.1 c r)<|Vv (Kg (Bq p<|Z) (Gc d<|Gz)) 4 [0,100,0,0] r<|It (λe=>Of 3 (zh e) r r<|Yo (Pt e r)<|Nl<|Bg () [0]) λe=>Vv (Kg Z (Gc e<|Gz)) 4 [0,0,0,0,0] r<|Nl<|Bg () [0]
   refine Ne<|Wc r (λq=>Sr<|Fo (Bs ([]:List Ac) ke58 kz117) λs=>Qs 1 r<|Nx<|Wv<|Bu<|Re (.slice (some ⟨s,0,none⟩) 0 0) [0]) λq=>Sn<|Sr<|Fo (Bs ([]:List Ac) ke58 kz117) λac=>Qs 2 r<|Bi λad f=>Yo (Ix ke59 (Bc Z.1) f r)<|?_
   have t:=Bj 0 Z.1 f r;refine Yo (Lz kk58 Z.1 f r)<|Bi λae u=>Fo (Ap [0] u ke58 kz117 r (Bc t)) λaf=>Qs 1 r<|Nx<|Sr<|Fo (Bs ([]:List Ac) ke58 kz117) λv=>Qs 1 r<|Nx<|Dw Z 9 [] r<|Jn Value [0,4,5] [1] (λT X=>[(6,X),(7,iv T.1)]) (λT X=>[.own X (lc T.2)]) r2 r2 (?_) λag ah=>?_
   ·refine Wb<|Lp Value [0,3,4,5] [2,1] (λT X=>[(6,X),(7,iv T.1),(8,iv T.2.1)]) (λT X=>[.own X (lc T.2.2)]) (.slice (some ⟨v,0,none⟩) 0 0) [2,1,0] r2 r2 λai h=>Dw Z 8 [0] r<|Wc r (λx=>?_) λx=>?_
    ·refine Sn<|Sq<|Wb<|Sq<|Jn Value [0,3,4,5,8] [0,0] (λT X=>[(6,X),(7,iv T.1)]) (λT X=>[.own X (lc T.2)]) r2 r2 (?_) λaj ak=>?_
     ·refine Wb<|Lp Value [0,3,4,5,8] [0,0] (λT X=>[(6,X),(7,iv T.1)]) (λT X=>[.own X (lc T.2)]) h [0,0,0] r2 r2 λal y=>Sq<|Sq<|Jv [0,3,4,5,6,7,8] (λT=>[(65,.bool T)]) r1 (?_) λam=>?_
      ·refine Dz 3 [] [] r hMix<|Aj Z [0,1,2,3,4] [] [1] r<|Ia (λa=>?_) λa=>?_
       ·exact Ak (Kg Z (Gc a<|Gz)) [5,6] [] [0,0] r<|Ai λan z=>Ak (Kk Z (Xc z<|Xz) (Gc a<|Gz)) [7,8,9,10] [] [0,1,0,0,201,0,0,0,0] r<|Ai λao A=>Ak (Kk Z (Xc A<|Xz) (Gc a<|Gz)) [11,12] [] [0,0,0,0,200,0,0] r<|Ai λap B=>A1 13<|Xeg (gdA (zu a)) r (Cl [] zfM B r r1) λ_=>Ay 14 r (Pt a r)<|Az<|Bg () [0,0,0]
       exact Ax [5,6,7,8,9,10,11,12,13] (zE a) r r<|Ay 14 r (Pf a r)<|Az<|Bg () [0,0,0]
      exact Ne<|Wc r (λC=>Sn<|Dt Z 6 [] r<|Bi λD E=>Vv (Kx Z (Xc E<|Xz)) 2 [1,0,201,0,0] r<|Fo (Bs [D] ke58 kz117) λaq=>Bi λar F=>Fo (Ap [3] F ke58 kz117 r (Oc 0 r)) λG=>Qs 1 r<|Nx<|Rg<|Qs 3 r<|Nl<|Bn<|Lg G [2,2,0]) λC=>We<|Jg y [0,0,0]
     refine Ne<|Sq<|Sq<|Jv [0,3,4,5,6,7,8] (λT=>[(90,.bool T)]) r1 (?_) λau=>?_
     ·refine Dz 3 [] [] r hMix<|Aj Z [0,1,2,3,4] [] [1] r<|Ia (λb=>?_) λb=>?_
      ·exact Ak (Kg Z (Gc b<|Gz)) [5,6] [] [0,0] r<|Ai λav H=>Ak (Kk Z (Xc H<|Xz) (Gc b<|Gz)) [7,8,9,10] [] [0,0,0,0,200,0,0,0,0] r<|Ai λaw I=>Ak (Kk Z (Xc I<|Xz) (Gc b<|Gz)) [11,12] [] [0,1,0,0,201,0,0] r<|Ai λax J=>A1 13<|Xeg (gdA (zu b)) r (Cl [] zfM J r r1) λ_=>Ak (Kg Z (Gc b<|Gz)) [14,15] [] [0,0] r<|Az<|Bg () [0,0,0]
      exact Ax [5,6,7,8,9,10,11,12,13,14] (zE b) r r<|Ay 15 r (Pf b r)<|Az<|Bg () [0,0,0]
     exact Ne<|Ju [0,3,4,5,6,8] (λT=>[(7,iv T)]) r1 (Wc r (λK=>Rg<|Qs 3 r<|Nl<|Jg () [0,0,0]) λK=>Sk<|Jg () [0,0,0]) λay=>Ne<|Rg<|Qs 3 r<|Bi λL M=>Vv (Kx Z (Xc M<|Xz)) 2 [0,0,200,0,0] r<|Fo (Bs [L] ke58 kz117) λaz=>Bi λaA N=>Fo (Ap [3] N ke58 kz117 r (Oc 0 r)) λO=>Qs 1 r<|Nl<|Bn<|Ne<|Rg<|Qs 3 r<|Nl<|Lg O [2,2,0]
    exact We<|Jg h [1,1]
   exact Ne<|Rg<|Qs 3 r<|Bi λaB i=>Yo (Y.subs i ke58 (Oc 0 r) r ⟨_,r⟩ r)<|Bi λaC P=>Fo (Ap [1] P ke58 kz117 r (Can.sub i r (Can.own 0 r))) λQ=>Qs 1 r<|Nl<|Bn<|Ne<|Rg<|Qs 3 r<|Nl<|Lg Q [0]
  exact We<|Jg m [0]
 refine Ne<|Dw Z 9 [] r<|Ju [3] (λT=>[(9,iv T)]) r1 (?_) λaD=>?_
 ·exact Wb<|Lu [0,3] (λT=>[(9,iv T.1),(10,iv T.2)]) r1 λaE=>Dw Z 8 [100] r<|Wc r (λR=>Sn<|Dt Z 6 [] r<|Bi λaF g=>Yo (Ix ke59 (Bc Z.1) g r)<|have U:=Bj 0 Z.1 g r;Yo (Lz kk58 Z.1 g r)<|Dv (Bq U<|Z) 3 [100] r<|Nl<|Bn<|Ne<|Rg<|Qs 3 r<|Nl<|Lg () [0]) λR=>We<|Jg () [0]
 exact Ne<|Dw Z 6 [] r<|Wc r (λV=>Sr<|Fo (Bs ([]:List Ac) ke58 kz117) λW=>Qs 1 r<|Nx<|Wv<|Re (.slice (some ⟨W,0,none⟩) 0 0) [0]) λV=>Sn<|Dw Z 5 [] r<|Wr<|Re k [0]
def zhv (l:List Ac) (at_:Int):Option Int:=bindC (loopO (λ(a:Int)=>Bb (if Dc (a<(l.length:Int))then Bb (idx l a) λb=>Bb (idx l at_) λc=>some (Dc (b.j=c.j))else some false) (λ(d:Bool)=>if d=true then some (.go (I6.wrap (a+1)))else some (.done (.go a)))) at_) (λ(e:Int)=>some e)
def zkW:Cn Pg 260 [U0,iv at_] [] [(U0,lc l)] (zhv l at_) (λr (_:Unit)=>iv r) λ_ _=>[]:=Ch Tryz.func260 r λw S Z=>by
 refine Dw Z 10 [] r<|Ju [] (λT=>[(5,iv T)]) r1 (?_) λe=>?_
 ·refine Wb<|Lu [0,1] (λT=>[(5,iv T)]) r1 λf=>Sq<|Sq<|Jv [0,1,5] (λT=>[(23,.bool T)]) r1 (?_) λg=>?_
  ·exact Dr [] [] r hMix<|Aj Z [0,1,2,3,4] [] [100] r<|Ia (λa=>Ak (Kg Z (Gc a<|Gz)) [5,6] [] [0,0] r<|Ai λh b=>Ak (Kk Z (Xc b<|Xz) (Gc a<|Gz)) [7,8,9,10,11] [] [0,100,0,0,101,0,0,0,300,0,0,0,0] r<|Ai λi c=>Ak (Kk Z (Xc c<|Xz) (Gc a<|Gz)) [12,13,14,15,16] [] [0,100,0,0,101,0,0,0,300,0,0,0,0] r<|Az<|Bv) λa=>Ax [5,6,7,8,9,10,11,12,13,14,15] (zE a) r r<|Ay 16 r (Pf a r)<|Az<|Bv
  exact Ne<|Wc r (λd=>Sn<|Dt Z 5 [] r<|Nl<|Bn<|Lq) λd=>We<|Jq
 exact Ne<|Dw Z 5 [] r<|Wr<|Rq
def zdH (l:List Ac) (key:List UInt8) (seq:Int):Option (Ac × Bool):=bindC (loopO (λ(a:Int)=>if Dc (a<(l.length:Int))then Bb (Bb (idx l a) λb=>if Dc (b.j=key)then some (Dc (b.c<=seq))else some false) (λ(d:Bool)=>if d=true then Bb (idx l a) λe=>some (.done (.done (e,true)))else some (.go (I6.wrap (a+1))))else some (.done (.go ()))) (0:Int)) (λ(f:Unit)=>some ((⟨[],0,false,[]⟩:Ac),false))
def zjH {seq:Int} :Cn Pg 228 [U0,strV key,iv seq] [] [(U0,lc l)] (zdH l key seq) (λr (_:Unit)=>.tuple #[.agg #[strV r.1.j,iv r.1.c,.bool r.1.P,strV r.1.M],.bool r.2]) λ_ _=>[]:=Ch Tryz.func228 r λw S Z=>by
 refine Sr<|Fo (Al kz117 r) λg=>Qs 1 r<|Nx<|Dw Z 5 [] r<|Ju [6] (λ_=>[]) r1 (?_) λh=>?_
 ·refine Wb<|Lu [0,1,2,6] (λT=>[(8,iv T)]) r1 λi=>Dw Z 8 [100] r<|Wc r (λd=>?_) λd=>?_
  ·exact Sn<|Sq<|Wb<|Sq<|Jv [0,1,2,6,8] (λT=>[(30,.bool T)]) r1 (Rg<|Qs 2 r<|Bi λk b=>Vv (Kx Z (Xc b<|Xz)) 6 [100,0,101,0,0,300,0,0] r<|It (λa=>Vv (Kk Z (Xc b<|Xz) (Gc a<|Gz)) 8 [0,0,0,100,0,0,101,0,0,0,300,0,1,0,0,0] r<|Nl<|Bg () [0]) λa=>Of 7 (zE a) r r<|Yo (Pf a r)<|Nl<|Bg () [0]) λm=>Ne<|Wc r (λe=>Sr<|Qs 2 r<|Bi λn f=>Vv (Kx Z (Xc f<|Xz)) 2 [100,0,300,0,0] r<|Fu (Sb 0 kk117 r (Cp r) r)<|Qs 1 r<|Nx<|Wr<|Bu<|Rj () [] [0] r) λe=>Sk<|Bn<|Ne<|Rg<|Qs 3 r<|Nl<|Lg () [0]
  exact We<|Jg () [0]
 exact Ne<|Sr<|Yo (Bd kp117 kz117 (Pz) r)<|Fu (Sb 0 kk117 r (Cp r) r)<|Qs 1 r<|Nx<|Wr<|Rj () [] [0] r
def zh7 (l:List Ac) (snaps:List Int) (A:Bool):Option (List Ac):=bindC (loopO (λ(a:Int × List Ac)=>if Dc (a.1<(l.length:Int))then bindC (loopO (λ(d:Bool × Int)=>if Dc (d.2<(snaps.length:Int))then Bb (idx l a.1) λe=>Bb (idx snaps d.2) λg=>Bb (zdH l e.j g) λf=>Bb (if d.1=true then some true else if f.2=true then some (Dc (f.1.c=e.c))else some false) (λ(h:Bool)=>some (.go (h,I6.wrap (d.2+1))))else some (.done (.go d.1))) (Dc (a.1=0),(0:Int))) (λ(i:Bool)=>bindC (if i=true then Bb (idx l a.1) λk=>Bb (app 48 a.2 ([k])) λm=>some (.go m)else some (.go a.2)) (λ(n:List Ac)=>some (.go (I6.wrap (a.1+1),n))))else some (.done (.go a.2))) ((0:Int),([]:List Ac))) (λ(o:List Ac)=>bindC (loopO (λ(b:List Ac)=>Bb (if A=true then if Dc ((b.length:Int)>0)then Bb (idx b (I6.wrap ((b.length:Int) - 1))) λp=>some p.P else some false else some false) (λ(q:Bool)=>if q=true then Bb (piece b 0 (I6.wrap ((b.length:Int) - 1))) λs=>Bb (app 48 ([]:List Ac) s) λt=>some (.go t)else some (.done (.go b)))) o) (λ(u:List Ac)=>some u))
def zrK {snaps:List Int} {bottom:Bool} :Cn Pg 261 [U0,U1,.bool bottom] [] [(U0,lc l),(U1,lc snaps)] (zh7 l snaps bottom) (λ_ (X:Value)=>X) λr X=>[.own X (lc r)]:=Ch Tryz.func261 r λw S Z=>by
 refine Dt Z 6 [] r<|Fo (Bs ([]:List Ac) ke58 kz117) λh=>Qs 1 r<|Nx<|Dw Z 5 [] r<|Jn Value [2] [] (λ_ X=>[(7,X)]) (λT X=>[.own X (lc T)]) r2 r2 (?_) λC i=>?_
 ·refine Wb<|Lp Value [0,1,2] [] (λT X=>[(7,X),(8,iv T.1)]) (λT X=>[.own X (lc T.2)]) (.slice (some ⟨h,0,none⟩) 0 0) [0] r2 r2 λD e=>Dw Z 8 [100] r<|Wc r (λj=>?_) λj=>?_
  ·refine Sn<|Dw Z 13 [] r<|Ju [0,1,2,7,8] (λT=>[(9,.bool T)]) r1 (?_) λE=>?_
   ·refine Wb<|Lu [0,1,2,7,8] (λT=>[(9,.bool T.1),(10,iv T.2)]) r1 λF=>Dw Z 8 [101] r<|Wc r (λk=>?_) λk=>?_
    ·refine Sn<|Sq<|Wb<|Sq<|Wi λG f=>Wi λH m=>Wi λI n=>Dz 1 [] [] r hMix<|Ak (Kx Z (Xc f<|Xc m<|Xz)) [0,1,2,3,4,5,6,7,8,9] [] [100,0,101,0,0,300,0,0,101,1,301,1,0] r<|Ts (Sc 14 r (λ_ _ z_=>Al kz117 r) Sz) r<|Me 10 r (λ_ _ z_=>Cl [] zjH n r r1 ⟨(Bc (z_ Z.1)),⟨⟩⟩) λ_=>Mq [11,12,13] r<|Mc λJ=>Mo<|A1 15<|Xu r (Sb 0 kk117 r (Cp r) r)<|Aq [16] r<|Az<|Ne<|Jb Unit [0,1,2,7,8,10] [1] (λT _=>[(9,.bool T)]) (λ_ _=>[]) r2 r2 (?_) λK L=>?_
     ·exact Dz 2 [] [] r hMix<|Aq [0,1] r<|Ia (λa=>Ax [2,3] (zh a) r r<|Au [4,5,6,7,8,9,10,11] r r<|Ak (Kg Z (Gc a<|Gz)) [12,13,14] [] [0,0] r<|Az<|Bg () [1]) λa=>Ak (Kg Z (Gc a<|Gz)) [2,3] [] [0,0] r<|Ia (λc=>Ak (Kk Z (Xc f<|Xz) (Gc c<|Gc a<|Gz)) [4,5,6,7,8,9,10,11,12,13,14] [] [0,0,0,0,0,0,0,100,0,0,101,0,0,0,300,0,1,0,1,0,1] r<|Az<|Bg () [1]) λc=>Ak (Kg Z (Gc c<|Gc a<|Gz)) [4,5,6,7,8,9,10,11,12,13,14] [] [0,0,0,0,0,0,0,0,1,0,1] r<|Az<|Bg () [1]
     exact Bn<|Ne<|Rg<|Qs 3 r<|Nl<|Lg () [0]
    exact We<|Jg () [0]
   exact Ne<|Dw Z 4 [] r<|Jn Value [0,1,2,8] [] (λ_ X=>[(7,X)]) (λT X=>[.own X (lc T)]) r2 r2 (Wc r (λo=>Rg<|Qs 3 r<|Bi λp q=>Vv (Kx Z (Xc q<|Xz)) 2 [100,0,300,0,0] r<|Fo (Bs [p] ke58 kz117) λM=>Bi λN s=>Fo (Ap [1] s ke58 kz117 r (Oc 0 r)) λt=>Qs 1 r<|Nl<|Jg t [0]) λo=>Sk<|Jg e [0]) λO u=>Bn<|Ne<|Rg<|Qs 3 r<|Nl<|Lg u [0]
  exact We<|Jg e [0]
 refine Ne<|Sq<|Jn Value [] [] (λ_ X=>[(7,X)]) (λT X=>[.own X (lc T)]) r2 r2 (?_) λP v=>?_
 ·refine Wb<|Lp Value [2] [] (λ_ X=>[(7,X)]) (λT X=>[.own X (lc T)]) i [0] r2 r2 λQ x=>Sq<|Sq<|Jv [2,7] (λT=>[(78,.bool T)]) r1 (?_) λR=>?_
  ·exact Rg<|Qs 2 r<|It (λd=>Vv (Kg Z (Gc d<|Gz)) 5 [0,0,0,0,0] r<|It (λb=>Vv (Kg Z (Gc b<|Gz)) 4 [0,0,0,0,0] r<|Bi λU y=>Vv (Kk Z (Xc y<|Xz) (Gc b<|Gz)) 4 [0,0,0,0,1,0,0,0,200,0,2,0] r<|Nl<|Bg () [0]) λb=>Of 7 (zE b) r r<|Yo (Pf b r)<|Nl<|Bg () [0]) λd=>Vv (Kg Z (Gc d<|Gz)) 5 [0,0,0,0] r<|Of 7 r r r<|Yo (Pf r r)<|Nl<|Bg () [0]
  exact Ne<|Wc r (λz=>Sn<|Wb<|Rg<|Fo (Bs ([]:List Ac) ke58 kz117) λV=>Dv Z 4 [1] r<|Bi λW g=>Yo (Y.subs g ke58 (Oc 1 r) r r ⟨_,r⟩)<|Bi λaa A=>Fo (Ap [0] A ke58 kz117 r (Can.sub g r (Can.own 1 r))) λB=>Qs 1 r<|Nl<|Bn<|Lg B [0]) λz=>We<|Jg x [0]
 exact Ne<|Dw Z 5 [] r<|Wr<|Re v [0]
def zev (l:List Ac) (snaps:List Int) (A:Bool):Option (List Ac):=Bb (if Dc ((l.length:Int)>400)then some true else Bb (zc1 l) λc=>some (!c)) (λ(d:Bool)=>if d=true then some ([]:List Ac)else bindC (loopO (λ(a:Int × List Ac)=>if Dc (a.1<(l.length:Int))then Bb (zhv l a.1) λb=>Bb (piece l a.1 b) λe=>Bb (zh7 e snaps A) λf=>Bb (app 48 a.2 f) λg=>some (.go (b,g))else some (.done (.go a.2))) ((0:Int),([]:List Ac))) (λ(h:List Ac)=>some h))
def zmM {snaps:List Int} {A:Bool} :Cn Pg 225 [U0,U1,.bool A] [] [(U0,lc l),(U1,lc snaps)] (zev l snaps A) (λ_ (X:Value)=>X) λr X=>[.own X (lc r)]:=Ch Tryz.func225 r λw S Z=>by
 refine Dt Z 6 [] r<|Fo (Bs ([]:List Ac) ke58 kz117) λb=>Qs 1 r<|Nx<|Sq<|Sq<|Jv [0,1,2,7] (λT=>[(17,.bool T)]) r1 (Dt Z 5 [100] r<|It (λa=>Of 3 (zh a) r r<|Yo (Pt a r)<|Nl<|Bg () [0]) λa=>Qg 1 (zf a) r r<|Bi λn d=>Fg (gdA (zf a)) (Cl [] zgn d r r1 ⟨(Bc Z.1),⟨⟩⟩) λ_=>Vv (Kg Z (Gc a<|Gz)) 2 [0,0] r<|Nl<|Bg () [0]) λo=>Ne<|Wc r (λe=>Dw Z 5 [] r<|Wv<|Re (.slice (some ⟨b,0,none⟩) 0 0) [0]) λe=>Sn<|Dw Z 5 [] r<|Jn Value [] [] (λ_ X=>[(7,X)]) (λT X=>[.own X (lc T)]) r2 r2 (?_) λp f=>?_
 ·refine Wb<|Lp Value [0,1,2] [] (λT X=>[(7,X),(8,iv T.1)]) (λT X=>[.own X (lc T.2)]) (.slice (some ⟨b,0,none⟩) 0 0) [0] r2 r2 λq g=>Dw Z 8 [100] r<|Wc r (λh=>?_) λh=>?_
  ·refine Sn<|Dt Z 8 [] r<|Cc Z [] [100] zkW r r2 λs i _=>Bi λt c=>?_
   have j:=Base.sub (sz:=4) c r Z.1;exact Yo (Y.subs c ke58 (Bc Z.1) r ⟨_,r⟩ ⟨_,r⟩)<|Qs 2 r<|Cc (Bq j<|Z) [] [100,102] zrK r r2 λu v x=>Bi λy k=>Fo (Ap [1] k ke58 kz117 r (Oc 0 r)) λm=>Qs 1 r<|Nl<|Bn<|Ne<|Rg<|Qs 2 r<|Fo (Cl [] zkW i r r1 ⟨(Bc Z.1),⟨⟩⟩) λ_=>Qs 1 r<|Nl<|Lg m [0]
  exact We<|Jg g [0]
 exact Ne<|Dw Z 5 [] r<|Wr<|Re f [0]
def zga (e:Aa):Option (Aa × Bool):=Bb (zbX e) λd=>if !d then some ((⟨[],[],0,[]⟩:Aa),false)else Bb (zbU e) λa=>if Dc ((a.t.length:Int)=0)then some (a,false)else Bb (zea a.t) λf=>Bb (zev f a.B true) λb=>bindC (if Dc ((b.length:Int)>0)then Bb (app 24 ([]:List (List Ac)) ([b])) λg=>some (.go g)else some (.go ([]:List (List Ac)))) (λ(h:List (List Ac))=>some ((⟨a.x,h,a.c,a.B⟩:Aa),true))
def zpk:Cn Pg 173 [.agg #[U0,U1,iv e.c,U2]] [] [(U0,lc e.x),(U1,lc e.t),(U2,lc e.B)] (zga e) (λr (X:Value × Value × Value)=>.tuple #[.agg #[X.1,X.2.1,iv r.1.c,X.2.2],.bool r.2]) λr X=>[.own X.1 (lc r.1.x),.own X.2.1 (lc r.1.t),.own X.2.2 (lc r.1.B)]:=Ch Tryz.func173 r λw S Z=>by
 refine Sr<|Fo (Bx r (Ca ⟨Ob Z.1,Ob Z.2.1,Op',Ob Z.2.2.1,⟨⟩⟩)) λq=>Fo (Al kz62 r) λs=>Qs 1 r<|Nx<|Dt Z 4 [1] r<|Cc Z [] [100,101,102] zcd r r2 λu v _=>Qs 1 r<|Nx<|Wc r (λb=>Sr<|Yo (Bd kp62 kz62 (Pz) r)<|Fu (Sb 0 kk62 r (Cp r) r)<|Qs 1 r<|Nx<|Wv<|Ni 4<|Ni 1<|Ni 1<|Rj ((.slice none 0 0),(.slice none 0 0),(.slice none 0 0)) [2,1,0] [3] r) λb=>Sn<|Dt Z 3 [1] r<|Cc Z [] [100,101,102] zb3 r r2 λd y a=>Fo (Al kz62 r) λf=>Fu (Sb 0 kk62 r (Ca ⟨Ow' 1,Ow' 2,Op',Ow' 3,⟨⟩⟩) r)<|Nx<|Dw Z 8 [0,0,2] r<|Wc r (λg=>Dt Z 3 [0] r<|Fu (Sb 4 kk62 r (Ca ⟨Ow' 1,Ow' 2,Op',Ow' 3,⟨⟩⟩) r)<|Qs 1 r<|Nx<|Wv<|Rj (a.1,a.2.1,a.2.2) [1,1,1] [4] r) λg=>?_
 refine Sn<|Sq<|Dz 6 [] [] r hMix<|Aj Z [0,1,3,4] [] [0,0,0,0] r<|Ai λz h=>A1 2<|Xe r (Cl [] zjA h r r1 ⟨(Oc 2 r),⟨⟩⟩) λA=>Ai λi j=>A1 5<|Xe r (Cl [] zmM j r r1 ⟨(Oc 0 r),(Oc 4 r),⟨⟩⟩) λk=>Aq [6] r<|Az<|Ne<|Sr<|Fo (Bk [] ke59 kz58 r (Qz)) λl=>Kt (Ha [0] ([]:List (List Ac)) r Cz)<|Dv Z 1 [0] r<|Fu (Sb 3 kk59 r (Cp r) r)<|Nx<|Dw Z 7 [1] r<|Jn Value [2,4] [7,4,5] (λ_ _=>[]) (λT X=>[.box f 62 [a.1,X,iv d.c,a.2.2],.own X (lc T)]) r2 r2 (?_) λC m=>?_
 ·exact Wc r (λn=>Dt Z 4 [0,3] r<|Fo (Bk [.raw k] ke59 kz58 r (Qc (Co 1)<|Qz)) λD=>Kt (Ha [0,1] ([i]:List (List Ac)) r (Cf Cz))<|Bi λE o=>Fo (Aw [1,0] o ke59 kz58 r) λp=>Dv Z 1 [0] r<|Fu (Sb 2 kk59 r (Co 0) r)<|Nl<|Jg p [6,3,4,2,0]) λn=>Sk<|Jg (.slice (some ⟨l,0,none⟩) 0 0) [7,4,5,3,0]
 exact Ne<|Dt Z 3 [3] r<|Fu (Sb 0 kk62 r (Ca ⟨Ow' 1,Ow' 4,Op',Ow' 2,⟨⟩⟩) r)<|Qs 1 r<|Nx<|Wr<|Rj (a.1,m,a.2.2) [1,3,1] [0] r
end Go.Proofs.YtmenicbkddagmaaGreat
end
end
