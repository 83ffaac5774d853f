/-
  The functions that a law reaches, each as a pure function, with the proof that the program computes it, and the step from a pure law to the given statement. Conditions: none.
-/
import Derived.Test.YtfgjhefhlabpkaaGreatSw
import Derived.Test.YtfgjhefhlabpkaaGreatSz
import Derived.Test.YtfgjhefhlabpkaaGreatRows
import Derived.Test.YtfgjhefhlabpkaaGreatSx
set_option linter.unusedVariables false
set_option maxRecDepth 100000
set_option maxHeartbeats 4000000
namespace Go.Proofs.YtfgjhefhlabpkaaGreat
open Go Sl
structure L1Cur where
 b:List UInt8
 i:Int
 h:Int
 deriving DecidableEq
instance:Enc L1Cur:=⟨3,fun x=>[lc x.b,.int .i64 x.i,.int .i64 x.h],fun _=>rfl,by decide⟩
instance:Dec L1Cur where
 sh:=[.sl 1 (Dec.sh UInt8),.int .i64,.int .i64]
 ok x:=okl x.b∧okI x.i∧okI x.h
 dec cs h:=by
  obtain ⟨c0,r0,rfl,h0,h⟩:=h.cons_inv
  obtain ⟨c1,r1,rfl,h1,h⟩:=h.cons_inv
  obtain ⟨c2,r2,rfl,h2,h⟩:=h.cons_inv
  obtain rfl:=h.nil_inv
  obtain ⟨y0,rfl,w0⟩:=h0.sl_inv (α:=UInt8) rfl
  obtain ⟨y1,rfl,w1_⟩:=h1.int_inv
  have w1:=zbm w1_
  obtain ⟨y2,rfl,w2_⟩:=h2.int_inv
  have w2:=zbm w2_
  exact ⟨(⟨y0,y1,y2⟩:L1Cur),rfl,w0,w1,w2⟩
structure Op where
 Key:List UInt8
 Del:Bool
 Val:List UInt8
 deriving DecidableEq
instance:Enc Op:=⟨3,fun x=>[.str x.Key,.bool x.Del,.str x.Val],fun _=>rfl,by decide⟩
instance:Dec Op where
 sh:=[.str,.bool,.str]
 ok x:=x.Key.length≤9223372036854775807∧True∧x.Val.length≤9223372036854775807
 dec cs h:=by
  obtain ⟨c0,r0,rfl,h0,h⟩:=h.cons_inv
  obtain ⟨c1,r1,rfl,h1,h⟩:=h.cons_inv
  obtain ⟨c2,r2,rfl,h2,h⟩:=h.cons_inv
  obtain rfl:=h.nil_inv
  obtain ⟨y0,rfl,w0⟩:=h0.str_inv
  obtain ⟨y1,rfl⟩:=h1.bool_inv
  have w1:=True.intro
  obtain ⟨y2,rfl,w2⟩:=h2.str_inv
  exact ⟨(⟨y0,y1,y2⟩:Op),rfl,w0,w1,w2⟩
instance:Flat Op:={vals:=fun x=>[strV x.Key,.bool x.Del,strV x.Val],flat:=fun _=>rfl}
structure Call where
 Kind:Int
 Token:List UInt8
 Tenant:Int
 N:Int
 Key:List UInt8
 To:List UInt8
 Ops:List Op
 deriving DecidableEq
instance:Enc Call:=⟨7,fun x=>[.int .i64 x.Kind,.str x.Token,.int .i64 x.Tenant,.int .i64 x.N,.str x.Key,.str x.To,lc x.Ops],fun _=>rfl,by decide⟩
instance:Dec Call where
 sh:=[.int .i64,.str,.int .i64,.int .i64,.str,.str,.sl 3 (Dec.sh Op)]
 ok x:=okI x.Kind∧x.Token.length≤9223372036854775807∧okI x.Tenant∧okI x.N∧x.Key.length≤9223372036854775807∧x.To.length≤9223372036854775807∧okl x.Ops
 dec cs h:=by
  obtain ⟨c0,r0,rfl,h0,h⟩:=h.cons_inv
  obtain ⟨c1,r1,rfl,h1,h⟩:=h.cons_inv
  obtain ⟨c2,r2,rfl,h2,h⟩:=h.cons_inv
  obtain ⟨c3,r3,rfl,h3,h⟩:=h.cons_inv
  obtain ⟨c4,r4,rfl,h4,h⟩:=h.cons_inv
  obtain ⟨c5,r5,rfl,h5,h⟩:=h.cons_inv
  obtain ⟨c6,r6,rfl,h6,h⟩:=h.cons_inv
  obtain rfl:=h.nil_inv
  obtain ⟨y0,rfl,w0_⟩:=h0.int_inv
  have w0:=zbm w0_
  obtain ⟨y1,rfl,w1⟩:=h1.str_inv
  obtain ⟨y2,rfl,w2_⟩:=h2.int_inv
  have w2:=zbm w2_
  obtain ⟨y3,rfl,w3_⟩:=h3.int_inv
  have w3:=zbm w3_
  obtain ⟨y4,rfl,w4⟩:=h4.str_inv
  obtain ⟨y5,rfl,w5⟩:=h5.str_inv
  obtain ⟨y6,rfl,w6⟩:=h6.sl_inv (α:=Op) rfl
  exact ⟨(⟨y0,y1,y2,y3,y4,y5,y6⟩:Call),rfl,w0,w1,w2,w3,w4,w5,w6⟩
structure KeySlot where
 Tenant:Int
 Key:List UInt8
 deriving DecidableEq
instance:Enc KeySlot:=⟨2,fun x=>[.int .i64 x.Tenant,.str x.Key],fun _=>rfl,by decide⟩
instance:Dec KeySlot where
 sh:=[.int .i64,.str]
 ok x:=okI x.Tenant∧x.Key.length≤9223372036854775807
 dec cs h:=by
  obtain ⟨c0,r0,rfl,h0,h⟩:=h.cons_inv
  obtain ⟨c1,r1,rfl,h1,h⟩:=h.cons_inv
  obtain rfl:=h.nil_inv
  obtain ⟨y0,rfl,w0_⟩:=h0.int_inv
  have w0:=zbm w0_
  obtain ⟨y1,rfl,w1⟩:=h1.str_inv
  exact ⟨(⟨y0,y1⟩:KeySlot),rfl,w0,w1⟩
instance:Flat KeySlot:={vals:=fun x=>[.int .i64 x.Tenant,strV x.Key],flat:=fun _=>rfl}
structure KeyDev where
 Master:List UInt8
 Slots:List KeySlot
 Wiped:Int
 deriving DecidableEq
instance:Enc KeyDev:=⟨3,fun x=>[.str x.Master,lc x.Slots,.int .i64 x.Wiped],fun _=>rfl,by decide⟩
instance:Dec KeyDev where
 sh:=[.str,.sl 2 (Dec.sh KeySlot),.int .i64]
 ok x:=x.Master.length≤9223372036854775807∧okl x.Slots∧okI x.Wiped
 dec cs h:=by
  obtain ⟨c0,r0,rfl,h0,h⟩:=h.cons_inv
  obtain ⟨c1,r1,rfl,h1,h⟩:=h.cons_inv
  obtain ⟨c2,r2,rfl,h2,h⟩:=h.cons_inv
  obtain rfl:=h.nil_inv
  obtain ⟨y0,rfl,w0⟩:=h0.str_inv
  obtain ⟨y1,rfl,w1⟩:=h1.sl_inv (α:=KeySlot) rfl
  obtain ⟨y2,rfl,w2_⟩:=h2.int_inv
  have w2:=zbm w2_
  exact ⟨(⟨y0,y1,y2⟩:KeyDev),rfl,w0,w1,w2⟩
structure Share where
 Tenant:Int
 Quota:Int
 deriving DecidableEq
instance:Enc Share:=⟨2,fun x=>[.int .i64 x.Tenant,.int .i64 x.Quota],fun _=>rfl,by decide⟩
instance:Dec Share where
 sh:=[.int .i64,.int .i64]
 ok x:=okI x.Tenant∧okI x.Quota
 dec cs h:=by
  obtain ⟨c0,r0,rfl,h0,h⟩:=h.cons_inv
  obtain ⟨c1,r1,rfl,h1,h⟩:=h.cons_inv
  obtain rfl:=h.nil_inv
  obtain ⟨y0,rfl,w0_⟩:=h0.int_inv
  have w0:=zbm w0_
  obtain ⟨y1,rfl,w1_⟩:=h1.int_inv
  have w1:=zbm w1_
  exact ⟨(⟨y0,y1⟩:Share),rfl,w0,w1⟩
instance:Flat Share:={vals:=fun x=>[.int .i64 x.Tenant,.int .i64 x.Quota],flat:=fun _=>rfl}
structure Shares where
 Size:Int
 List:_root_.List Share
 deriving DecidableEq
instance:Enc Shares:=⟨2,fun x=>[.int .i64 x.Size,lc x.List],fun _=>rfl,by decide⟩
instance:Dec Shares where
 sh:=[.int .i64,.sl 2 (Dec.sh Share)]
 ok x:=okI x.Size∧okl x.List
 dec cs h:=by
  obtain ⟨c0,r0,rfl,h0,h⟩:=h.cons_inv
  obtain ⟨c1,r1,rfl,h1,h⟩:=h.cons_inv
  obtain rfl:=h.nil_inv
  obtain ⟨y0,rfl,w0_⟩:=h0.int_inv
  have w0:=zbm w0_
  obtain ⟨y1,rfl,w1⟩:=h1.sl_inv (α:=Share) rfl
  exact ⟨(⟨y0,y1⟩:Shares),rfl,w0,w1⟩
structure Ent where
 Key:List UInt8
 Seq:Int
 Del:Bool
 Val:List UInt8
 deriving DecidableEq
instance:Enc Ent:=⟨4,fun x=>[.str x.Key,.int .i64 x.Seq,.bool x.Del,.str x.Val],fun _=>rfl,by decide⟩
instance:Dec Ent where
 sh:=[.str,.int .i64,.bool,.str]
 ok x:=x.Key.length≤9223372036854775807∧okI x.Seq∧True∧x.Val.length≤9223372036854775807
 dec cs h:=by
  obtain ⟨c0,r0,rfl,h0,h⟩:=h.cons_inv
  obtain ⟨c1,r1,rfl,h1,h⟩:=h.cons_inv
  obtain ⟨c2,r2,rfl,h2,h⟩:=h.cons_inv
  obtain ⟨c3,r3,rfl,h3,h⟩:=h.cons_inv
  obtain rfl:=h.nil_inv
  obtain ⟨y0,rfl,w0⟩:=h0.str_inv
  obtain ⟨y1,rfl,w1_⟩:=h1.int_inv
  have w1:=zbm w1_
  obtain ⟨y2,rfl⟩:=h2.bool_inv
  have w2:=True.intro
  obtain ⟨y3,rfl,w3⟩:=h3.str_inv
  exact ⟨(⟨y0,y1,y2,y3⟩:Ent),rfl,w0,w1,w2,w3⟩
instance:Flat Ent:={vals:=fun x=>[strV x.Key,.int .i64 x.Seq,.bool x.Del,strV x.Val],flat:=fun _=>rfl}
instance:Enc (List Ent):=⟨1,fun l=>[lc l],fun _=>rfl,Nat.one_pos⟩
instance:Dec (List Ent) where
 sh:=[.sl 4 (Dec.sh Ent)]
 ok l:=okl l
 dec cs h:=by
  obtain ⟨c0,r0,rfl,h0,h⟩:=h.cons_inv
  obtain rfl:=h.nil_inv
  obtain ⟨y0,rfl,w0⟩:=h0.sl_inv (α:=Ent) rfl
  exact ⟨y0,rfl,w0⟩
structure Eng where
 Mem:List Ent
 Tables:List (List Ent)
 Seq:Int
 Snaps:List Int
 deriving DecidableEq
instance:Enc Eng:=⟨4,fun x=>[lc x.Mem,lc x.Tables,.int .i64 x.Seq,lc x.Snaps],fun _=>rfl,by decide⟩
instance:Dec Eng where
 sh:=[.sl 4 (Dec.sh Ent),.sl 1 (Dec.sh (List Ent)),.int .i64,.sl 1 (Dec.sh Int)]
 ok x:=okl x.Mem∧okl x.Tables∧okI x.Seq∧okl x.Snaps
 dec cs h:=by
  obtain ⟨c0,r0,rfl,h0,h⟩:=h.cons_inv
  obtain ⟨c1,r1,rfl,h1,h⟩:=h.cons_inv
  obtain ⟨c2,r2,rfl,h2,h⟩:=h.cons_inv
  obtain ⟨c3,r3,rfl,h3,h⟩:=h.cons_inv
  obtain rfl:=h.nil_inv
  obtain ⟨y0,rfl,w0⟩:=h0.sl_inv (α:=Ent) rfl
  obtain ⟨y1,rfl,w1⟩:=h1.sl_inv (α:=List Ent) rfl
  obtain ⟨y2,rfl,w2_⟩:=h2.int_inv
  have w2:=zbm w2_
  obtain ⟨y3,rfl,w3⟩:=h3.sl_inv (α:=Int) rfl
  exact ⟨(⟨y0,y1,y2,y3⟩:Eng),rfl,w0,w1,w2,w3⟩
structure STen where
 Id:Int
 Epoch:Int
 Base:Int
 Eng:Eng
 deriving DecidableEq
instance:Enc STen:=⟨7,fun x=>[.int .i64 x.Id,.int .i64 x.Epoch,.int .i64 x.Base,lc x.Eng.Mem,lc x.Eng.Tables,.int .i64 x.Eng.Seq,lc x.Eng.Snaps],fun _=>rfl,by decide⟩
instance:Dec STen where
 sh:=[.int .i64,.int .i64,.int .i64,.sl 4 (Dec.sh Ent),.sl 1 (Dec.sh (List Ent)),.int .i64,.sl 1 (Dec.sh Int)]
 ok x:=okI x.Id∧okI x.Epoch∧okI x.Base∧okl x.Eng.Mem∧okl x.Eng.Tables∧okI x.Eng.Seq∧okl x.Eng.Snaps
 dec cs h:=by
  obtain ⟨c0,r0,rfl,h0,h⟩:=h.cons_inv
  obtain ⟨c1,r1,rfl,h1,h⟩:=h.cons_inv
  obtain ⟨c2,r2,rfl,h2,h⟩:=h.cons_inv
  obtain ⟨c3,r3,rfl,h3,h⟩:=h.cons_inv
  obtain ⟨c4,r4,rfl,h4,h⟩:=h.cons_inv
  obtain ⟨c5,r5,rfl,h5,h⟩:=h.cons_inv
  obtain ⟨c6,r6,rfl,h6,h⟩:=h.cons_inv
  obtain rfl:=h.nil_inv
  obtain ⟨y0,rfl,w0_⟩:=h0.int_inv
  have w0:=zbm w0_
  obtain ⟨y1,rfl,w1_⟩:=h1.int_inv
  have w1:=zbm w1_
  obtain ⟨y2,rfl,w2_⟩:=h2.int_inv
  have w2:=zbm w2_
  obtain ⟨y3,rfl,w3⟩:=h3.sl_inv (α:=Ent) rfl
  obtain ⟨y4,rfl,w4⟩:=h4.sl_inv (α:=List Ent) rfl
  obtain ⟨y5,rfl,w5_⟩:=h5.int_inv
  have w5:=zbm w5_
  obtain ⟨y6,rfl,w6⟩:=h6.sl_inv (α:=Int) rfl
  exact ⟨(⟨y0,y1,y2,⟨y3,y4,y5,y6⟩⟩:STen),rfl,w0,w1,w2,w3,w4,w5,w6⟩
structure LogRow where
 Tenant:Int
 Boot:Int
 Seq:Int
 Text:List UInt8
 Synced:Bool
 deriving DecidableEq
instance:Enc LogRow:=⟨5,fun x=>[.int .i64 x.Tenant,.int .i64 x.Boot,.int .i64 x.Seq,.str x.Text,.bool x.Synced],fun _=>rfl,by decide⟩
instance:Dec LogRow where
 sh:=[.int .i64,.int .i64,.int .i64,.str,.bool]
 ok x:=okI x.Tenant∧okI x.Boot∧okI x.Seq∧x.Text.length≤9223372036854775807∧True
 dec cs h:=by
  obtain ⟨c0,r0,rfl,h0,h⟩:=h.cons_inv
  obtain ⟨c1,r1,rfl,h1,h⟩:=h.cons_inv
  obtain ⟨c2,r2,rfl,h2,h⟩:=h.cons_inv
  obtain ⟨c3,r3,rfl,h3,h⟩:=h.cons_inv
  obtain ⟨c4,r4,rfl,h4,h⟩:=h.cons_inv
  obtain rfl:=h.nil_inv
  obtain ⟨y0,rfl,w0_⟩:=h0.int_inv
  have w0:=zbm w0_
  obtain ⟨y1,rfl,w1_⟩:=h1.int_inv
  have w1:=zbm w1_
  obtain ⟨y2,rfl,w2_⟩:=h2.int_inv
  have w2:=zbm w2_
  obtain ⟨y3,rfl,w3⟩:=h3.str_inv
  obtain ⟨y4,rfl⟩:=h4.bool_inv
  have w4:=True.intro
  exact ⟨(⟨y0,y1,y2,y3,y4⟩:LogRow),rfl,w0,w1,w2,w3,w4⟩
instance:Flat LogRow:={vals:=fun x=>[.int .i64 x.Tenant,.int .i64 x.Boot,.int .i64 x.Seq,strV x.Text,.bool x.Synced],flat:=fun _=>rfl}
structure Store where
 Secret:List UInt8
 Keys:KeyDev
 Shares:Shares
 Tens:List STen
 Rows:List LogRow
 Hist:List LogRow
 Boot:Int
 deriving DecidableEq
instance:Enc Store:=⟨10,fun x=>[.str x.Secret,.str x.Keys.Master,lc x.Keys.Slots,.int .i64 x.Keys.Wiped,.int .i64 x.Shares.Size,lc x.Shares.List,lc x.Tens,lc x.Rows,lc x.Hist,.int .i64 x.Boot],fun _=>rfl,by decide⟩
instance:Dec Store where
 sh:=[.str,.str,.sl 2 (Dec.sh KeySlot),.int .i64,.int .i64,.sl 2 (Dec.sh Share),.sl 7 (Dec.sh STen),.sl 5 (Dec.sh LogRow),.sl 5 (Dec.sh LogRow),.int .i64]
 ok x:=x.Secret.length≤9223372036854775807∧x.Keys.Master.length≤9223372036854775807∧okl x.Keys.Slots∧okI x.Keys.Wiped∧okI x.Shares.Size∧okl x.Shares.List∧okl x.Tens∧okl x.Rows∧okl x.Hist∧okI x.Boot
 dec cs h:=by
  obtain ⟨c0,r0,rfl,h0,h⟩:=h.cons_inv
  obtain ⟨c1,r1,rfl,h1,h⟩:=h.cons_inv
  obtain ⟨c2,r2,rfl,h2,h⟩:=h.cons_inv
  obtain ⟨c3,r3,rfl,h3,h⟩:=h.cons_inv
  obtain ⟨c4,r4,rfl,h4,h⟩:=h.cons_inv
  obtain ⟨c5,r5,rfl,h5,h⟩:=h.cons_inv
  obtain ⟨c6,r6,rfl,h6,h⟩:=h.cons_inv
  obtain ⟨c7,r7,rfl,h7,h⟩:=h.cons_inv
  obtain ⟨c8,r8,rfl,h8,h⟩:=h.cons_inv
  obtain ⟨c9,r9,rfl,h9,h⟩:=h.cons_inv
  obtain rfl:=h.nil_inv
  obtain ⟨y0,rfl,w0⟩:=h0.str_inv
  obtain ⟨y1,rfl,w1⟩:=h1.str_inv
  obtain ⟨y2,rfl,w2⟩:=h2.sl_inv (α:=KeySlot) rfl
  obtain ⟨y3,rfl,w3_⟩:=h3.int_inv
  have w3:=zbm w3_
  obtain ⟨y4,rfl,w4_⟩:=h4.int_inv
  have w4:=zbm w4_
  obtain ⟨y5,rfl,w5⟩:=h5.sl_inv (α:=Share) rfl
  obtain ⟨y6,rfl,w6⟩:=h6.sl_inv (α:=STen) rfl
  obtain ⟨y7,rfl,w7⟩:=h7.sl_inv (α:=LogRow) rfl
  obtain ⟨y8,rfl,w8⟩:=h8.sl_inv (α:=LogRow) rfl
  obtain ⟨y9,rfl,w9_⟩:=h9.int_inv
  have w9:=zbm w9_
  exact ⟨(⟨y0,⟨y1,y2,y3⟩,⟨y4,y5⟩,y6,y7,y8,y9⟩:Store),rfl,w0,w1,w2,w3,w4,w5,w6,w7,w8,w9⟩
structure KV where
 Key:List UInt8
 Val:List UInt8
 deriving DecidableEq
instance:Enc KV:=⟨2,fun x=>[.str x.Key,.str x.Val],fun _=>rfl,by decide⟩
instance:Dec KV where
 sh:=[.str,.str]
 ok x:=x.Key.length≤9223372036854775807∧x.Val.length≤9223372036854775807
 dec cs h:=by
  obtain ⟨c0,r0,rfl,h0,h⟩:=h.cons_inv
  obtain ⟨c1,r1,rfl,h1,h⟩:=h.cons_inv
  obtain rfl:=h.nil_inv
  obtain ⟨y0,rfl,w0⟩:=h0.str_inv
  obtain ⟨y1,rfl,w1⟩:=h1.str_inv
  exact ⟨(⟨y0,y1⟩:KV),rfl,w0,w1⟩
instance:Flat KV:={vals:=fun x=>[strV x.Key,strV x.Val],flat:=fun _=>rfl}
structure Reply where
 Code:Int
 N:Int
 Text:_root_.List UInt8
 List:_root_.List KV
 deriving DecidableEq
instance:Enc Reply:=⟨4,fun x=>[.int .i64 x.Code,.int .i64 x.N,.str x.Text,lc x.List],fun _=>rfl,by decide⟩
instance:Dec Reply where
 sh:=[.int .i64,.int .i64,.str,.sl 2 (Dec.sh KV)]
 ok x:=okI x.Code∧okI x.N∧x.Text.length≤9223372036854775807∧okl x.List
 dec cs h:=by
  obtain ⟨c0,r0,rfl,h0,h⟩:=h.cons_inv
  obtain ⟨c1,r1,rfl,h1,h⟩:=h.cons_inv
  obtain ⟨c2,r2,rfl,h2,h⟩:=h.cons_inv
  obtain ⟨c3,r3,rfl,h3,h⟩:=h.cons_inv
  obtain rfl:=h.nil_inv
  obtain ⟨y0,rfl,w0_⟩:=h0.int_inv
  have w0:=zbm w0_
  obtain ⟨y1,rfl,w1_⟩:=h1.int_inv
  have w1:=zbm w1_
  obtain ⟨y2,rfl,w2⟩:=h2.str_inv
  obtain ⟨y3,rfl,w3⟩:=h3.sl_inv (α:=KV) rfl
  exact ⟨(⟨y0,y1,y2,y3⟩:Reply),rfl,w0,w1,w2,w3⟩
structure Reader where
 text:List UInt8
 at_:Int
 bad:Bool
 deriving DecidableEq
instance:Enc Reader:=⟨3,fun x=>[.str x.text,.int .i64 x.at_,.bool x.bad],fun _=>rfl,by decide⟩
instance:Dec Reader where
 sh:=[.str,.int .i64,.bool]
 ok x:=x.text.length≤9223372036854775807∧okI x.at_∧True
 dec cs h:=by
  obtain ⟨c0,r0,rfl,h0,h⟩:=h.cons_inv
  obtain ⟨c1,r1,rfl,h1,h⟩:=h.cons_inv
  obtain ⟨c2,r2,rfl,h2,h⟩:=h.cons_inv
  obtain rfl:=h.nil_inv
  obtain ⟨y0,rfl,w0⟩:=h0.str_inv
  obtain ⟨y1,rfl,w1_⟩:=h1.int_inv
  have w1:=zbm w1_
  obtain ⟨y2,rfl⟩:=h2.bool_inv
  have w2:=True.intro
  exact ⟨(⟨y0,y1,y2⟩:Reader),rfl,w0,w1,w2⟩
instance:Flat Reader:={vals:=fun x=>[strV x.text,.int .i64 x.at_,.bool x.bad],flat:=fun _=>rfl}
theorem hMix:Tryz.prog.follows .mixedOrders=true:=by kernel_rfl
theorem ke22:elemB Tryz.prog 22=some (5,1,1):=by kernel_rfl
theorem kk5:kindB Tryz.prog 5=some (false,1):=by kernel_rfl
theorem ki5:intB Tryz.prog 5=some .u8:=by kernel_rfl
theorem ki3:intB Tryz.prog 3=some .i64:=by kernel_rfl
theorem kz66:zeroB Tryz.prog 66=some (.agg #[.slice none 0 0,.int .i64 (0:Int),.int .i64 (0:Int)]):=by kernel_rfl
theorem kp66:placesB Tryz.prog 66=some [(0,1),(1,1),(2,1)]:=by kernel_rfl
theorem kz5:zeroB Tryz.prog 5=some (.int .u8 (0:Int)):=by kernel_rfl
theorem ks9:isStrB Tryz.prog 9=true:=by kernel_rfl
theorem zl4:fieldB Tryz.prog 66 2=some 2:=by kernel_rfl
theorem kk3:kindB Tryz.prog 3=some (false,1):=by kernel_rfl
theorem zl3:fieldB Tryz.prog 66 1=some 1:=by kernel_rfl
theorem zrA:fieldB Tryz.prog 66 0=some 0:=by kernel_rfl
theorem kk22:kindB Tryz.prog 22=some (false,1):=by kernel_rfl
theorem ke53:elemB Tryz.prog 53=some (3,1,8):=by kernel_rfl
theorem kz3:zeroB Tryz.prog 3=some (.int .i64 (0:Int)):=by kernel_rfl
theorem ke82:elemB Tryz.prog 82=some (9,1,16):=by kernel_rfl
theorem kk9:kindB Tryz.prog 9=some (false,1):=by kernel_rfl
theorem kz9:zeroB Tryz.prog 9=some (strV ([])):=by kernel_rfl
theorem kz120:zeroB Tryz.prog 120=some (.agg #[strV ([]),.bool false,strV ([])]):=by kernel_rfl
theorem ke27:elemB Tryz.prog 27=some (120,3,40):=by kernel_rfl
theorem kp120:placesB Tryz.prog 120=some [(0,1),(1,1),(2,1)]:=by kernel_rfl
theorem kk120:kindB Tryz.prog 120=some (true,3):=by kernel_rfl
theorem zff:fieldB Tryz.prog 120 1=some 1:=by kernel_rfl
theorem kk4:kindB Tryz.prog 4=some (false,1):=by kernel_rfl
theorem zfg:fieldB Tryz.prog 120 2=some 2:=by kernel_rfl
theorem zev:fieldB Tryz.prog 120 0=some 0:=by kernel_rfl
theorem kz29:zeroB Tryz.prog 29=some (.agg #[.int .i64 (0:Int),strV ([]),.int .i64 (0:Int),.int .i64 (0:Int),strV ([]),strV ([]),.slice none 0 0]):=by kernel_rfl
theorem kp29:placesB Tryz.prog 29=some [(0,1),(1,1),(2,1),(3,1),(4,1),(5,1),(6,1)]:=by kernel_rfl
theorem kk29:kindB Tryz.prog 29=some (true,7):=by kernel_rfl
theorem z7:fieldB Tryz.prog 29 0=some 0:=by kernel_rfl
theorem zdI:fieldB Tryz.prog 29 3=some 3:=by kernel_rfl
theorem zf8:fieldB Tryz.prog 29 4=some 4:=by kernel_rfl
theorem zrw:fieldB Tryz.prog 29 5=some 5:=by kernel_rfl
theorem zf9:fieldB Tryz.prog 29 6=some 6:=by kernel_rfl
theorem kk27:kindB Tryz.prog 27=some (false,1):=by kernel_rfl
theorem zj9:fieldB Tryz.prog 29 1=some 1:=by kernel_rfl
theorem ke24:elemB Tryz.prog 24=some (29,7,96):=by kernel_rfl
theorem kz39:zeroB Tryz.prog 39=some (.agg #[strV ([]),strV ([]),.slice none 0 0,.int .i64 (0:Int),.int .i64 (0:Int),.slice none 0 0,.slice none 0 0,.slice none 0 0,.slice none 0 0,.int .i64 (0:Int)]):=by kernel_rfl
theorem kp39:placesB Tryz.prog 39=some [(0,1),(1,3),(4,2),(6,1),(7,1),(8,1),(9,1)]:=by kernel_rfl
theorem kk39:kindB Tryz.prog 39=some (true,10):=by kernel_rfl
theorem kz32:zeroB Tryz.prog 32=some (.agg #[strV ([]),.slice none 0 0,.int .i64 (0:Int)]):=by kernel_rfl
theorem kp32:placesB Tryz.prog 32=some [(0,1),(1,1),(2,1)]:=by kernel_rfl
theorem kz35:zeroB Tryz.prog 35=some (.agg #[.int .i64 (0:Int),.slice none 0 0]):=by kernel_rfl
theorem kp35:placesB Tryz.prog 35=some [(0,1),(1,1)]:=by kernel_rfl
theorem zdk:fieldB Tryz.prog 39 3=some 6:=by kernel_rfl
theorem kk36:kindB Tryz.prog 36=some (false,1):=by kernel_rfl
theorem ke36:elemB Tryz.prog 36=some (95,7,104):=by kernel_rfl
theorem kk95:kindB Tryz.prog 95=some (true,7):=by kernel_rfl
theorem zeS:fieldB Tryz.prog 95 0=some 0:=by kernel_rfl
theorem kz60:zeroB Tryz.prog 60=some (.agg #[.int .i64 (0:Int),.int .i64 (0:Int),strV ([]),.slice none 0 0]):=by kernel_rfl
theorem kp60:placesB Tryz.prog 60=some [(0,1),(1,1),(2,1),(3,1)]:=by kernel_rfl
theorem kk60:kindB Tryz.prog 60=some (true,4):=by kernel_rfl
theorem zcV:fieldB Tryz.prog 35 1=some 1:=by kernel_rfl
theorem kk33:kindB Tryz.prog 33=some (false,1):=by kernel_rfl
theorem ke33:elemB Tryz.prog 33=some (129,2,16):=by kernel_rfl
theorem kk129:kindB Tryz.prog 129=some (true,2):=by kernel_rfl
theorem kz129:zeroB Tryz.prog 129=some (.agg #[.int .i64 (0:Int),.int .i64 (0:Int)]):=by kernel_rfl
theorem zmQ:fieldB Tryz.prog 129 1=some 1:=by kernel_rfl
theorem zou:fieldB Tryz.prog 35 0=some 0:=by kernel_rfl
theorem zhi:fieldB Tryz.prog 129 0=some 0:=by kernel_rfl
theorem kk35:kindB Tryz.prog 35=some (true,2):=by kernel_rfl
theorem kp129:placesB Tryz.prog 129=some [(0,1),(1,1)]:=by kernel_rfl
theorem ztO:fieldB Tryz.prog 32 0=some 0:=by kernel_rfl
theorem zea:fieldB Tryz.prog 32 1=some 1:=by kernel_rfl
theorem kk30:kindB Tryz.prog 30=some (false,1):=by kernel_rfl
theorem ke30:elemB Tryz.prog 30=some (135,2,24):=by kernel_rfl
theorem zka:fieldB Tryz.prog 32 2=some 2:=by kernel_rfl
theorem kk135:kindB Tryz.prog 135=some (true,2):=by kernel_rfl
theorem kz135:zeroB Tryz.prog 135=some (.agg #[.int .i64 (0:Int),strV ([])]):=by kernel_rfl
theorem ziE:fieldB Tryz.prog 135 0=some 0:=by kernel_rfl
theorem zpP:fieldB Tryz.prog 135 1=some 1:=by kernel_rfl
theorem kk32:kindB Tryz.prog 32=some (true,3):=by kernel_rfl
theorem kp135:placesB Tryz.prog 135=some [(0,1),(1,1)]:=by kernel_rfl
theorem kz95:zeroB Tryz.prog 95=some (.agg #[.int .i64 (0:Int),.int .i64 (0:Int),.int .i64 (0:Int),.slice none 0 0,.slice none 0 0,.int .i64 (0:Int),.slice none 0 0]):=by kernel_rfl
theorem ki79:intB Tryz.prog 79=some .u64:=by kernel_rfl
theorem ki170:intB Tryz.prog 170=some .u32:=by kernel_rfl
theorem kz171:zeroB Tryz.prog 171=some (arrV (List.replicate 16 (Wrd.mk 0))):=by kernel_rfl
theorem ka171:arrB Tryz.prog 171=some (16,170,1):=by kernel_rfl
theorem kk171:kindB Tryz.prog 171=some (true,16):=by kernel_rfl
theorem kk170:kindB Tryz.prog 170=some (false,1):=by kernel_rfl
theorem zcU:fieldB Tryz.prog 29 2=some 2:=by kernel_rfl
theorem zhD:fieldB Tryz.prog 39 2=some 4:=by kernel_rfl
theorem zhC:fieldB Tryz.prog 39 1=some 1:=by kernel_rfl
theorem kp95:placesB Tryz.prog 95=some [(0,1),(1,1),(2,1),(3,4)]:=by kernel_rfl
theorem zov:fieldB Tryz.prog 39 0=some 0:=by kernel_rfl
theorem zfv:fieldB Tryz.prog 39 4=some 7:=by kernel_rfl
theorem kk37:kindB Tryz.prog 37=some (false,1):=by kernel_rfl
theorem ke37:elemB Tryz.prog 37=some (106,5,48):=by kernel_rfl
theorem kk106:kindB Tryz.prog 106=some (true,5):=by kernel_rfl
theorem zpO:fieldB Tryz.prog 106 0=some 0:=by kernel_rfl
theorem kz106:zeroB Tryz.prog 106=some (.agg #[.int .i64 (0:Int),.int .i64 (0:Int),.int .i64 (0:Int),strV ([]),.bool false]):=by kernel_rfl
theorem zgC:fieldB Tryz.prog 39 6=some 9:=by kernel_rfl
theorem ziG:fieldB Tryz.prog 95 1=some 1:=by kernel_rfl
theorem ke91:elemB Tryz.prog 91=some (90,1,24):=by kernel_rfl
theorem kk90:kindB Tryz.prog 90=some (false,1):=by kernel_rfl
theorem kz90:zeroB Tryz.prog 90=some (.slice none 0 0):=by kernel_rfl
theorem zb6:fieldB Tryz.prog 93 0=some 0:=by kernel_rfl
theorem ke90:elemB Tryz.prog 90=some (189,4,48):=by kernel_rfl
theorem zbl:fieldB Tryz.prog 93 1=some 1:=by kernel_rfl
theorem kk91:kindB Tryz.prog 91=some (false,1):=by kernel_rfl
theorem kz189:zeroB Tryz.prog 189=some (.agg #[strV ([]),.int .i64 (0:Int),.bool false,strV ([])]):=by kernel_rfl
theorem kk189:kindB Tryz.prog 189=some (true,4):=by kernel_rfl
theorem zdB:fieldB Tryz.prog 189 0=some 0:=by kernel_rfl
theorem zfK:fieldB Tryz.prog 189 1=some 1:=by kernel_rfl
theorem zmR:fieldB Tryz.prog 189 2=some 2:=by kernel_rfl
theorem zfw:fieldB Tryz.prog 93 3=some 3:=by kernel_rfl
theorem kk53:kindB Tryz.prog 53=some (false,1):=by kernel_rfl
theorem zbh:fieldB Tryz.prog 95 3=some 3:=by kernel_rfl
theorem zcA:fieldB Tryz.prog 93 2=some 2:=by kernel_rfl
theorem zl5:fieldB Tryz.prog 95 2=some 2:=by kernel_rfl
theorem zgs:fieldB Tryz.prog 111 2=some 2:=by kernel_rfl
theorem zkw:fieldB Tryz.prog 111 0=some 0:=by kernel_rfl
theorem zfe:fieldB Tryz.prog 111 1=some 1:=by kernel_rfl
theorem kz111:zeroB Tryz.prog 111=some (.agg #[strV ([]),.int .i64 (0:Int),.bool false]):=by kernel_rfl
theorem kp111:placesB Tryz.prog 111=some [(0,1),(1,1),(2,1)]:=by kernel_rfl
theorem kk111:kindB Tryz.prog 111=some (true,3):=by kernel_rfl
theorem zpQ:fieldB Tryz.prog 189 3=some 3:=by kernel_rfl
theorem kz78:zeroB Tryz.prog 78=some (.agg #[strV ([]),strV ([])]):=by kernel_rfl
theorem kp78:placesB Tryz.prog 78=some [(0,1),(1,1)]:=by kernel_rfl
theorem ke58:elemB Tryz.prog 58=some (78,2,32):=by kernel_rfl
theorem kk78:kindB Tryz.prog 78=some (true,2):=by kernel_rfl
theorem zow:fieldB Tryz.prog 78 0=some 0:=by kernel_rfl
theorem zrB:fieldB Tryz.prog 78 1=some 1:=by kernel_rfl
theorem kz93:zeroB Tryz.prog 93=some (.agg #[.slice none 0 0,.slice none 0 0,.int .i64 (0:Int),.slice none 0 0]):=by kernel_rfl
theorem kp93:placesB Tryz.prog 93=some [(0,1),(1,1),(2,1),(3,1)]:=by kernel_rfl
theorem kk93:kindB Tryz.prog 93=some (true,4):=by kernel_rfl
theorem kp189:placesB Tryz.prog 189=some [(0,1),(1,1),(2,1),(3,1)]:=by kernel_rfl
theorem kz225:zeroB Tryz.prog 225=some (.agg #[.pointer none,.slice none 0 0]):=by kernel_rfl
theorem zkx:fieldB Tryz.prog 225 0=some 0:=by kernel_rfl
theorem zhj:fieldB Tryz.prog 225 1=some 1:=by kernel_rfl
theorem kk223:kindB Tryz.prog 223=some (false,1):=by kernel_rfl
theorem kc201:callB Tryz.prog 201=true:=by kernel_rfl
theorem kp223:ptrB Tryz.prog 223=some (225,2):=by kernel_rfl
theorem kp246:ptrB Tryz.prog 246=some (5,1):=by kernel_rfl
theorem ku250:unsB Tryz.prog 250=true:=by kernel_rfl
theorem kl225:liesAt Tryz.prog Tryz.prog.depth 225 (2 / Tryz.prog.cellsOf 225) 0 225 1=true:=by kernel_rfl
theorem kc179:callB Tryz.prog 179=true:=by kernel_rfl
theorem kc182:callB Tryz.prog 182=true:=by kernel_rfl
theorem zl2:fieldB Tryz.prog 39 5=some 8:=by kernel_rfl
theorem kp106:placesB Tryz.prog 106=some [(0,1),(1,1),(2,1),(3,1),(4,1)]:=by kernel_rfl
theorem zkv:fieldB Tryz.prog 106 4=some 4:=by kernel_rfl
theorem zrC:fieldTB Tryz.prog 93 1=some (1,91):=by kernel_rfl
theorem zto:fieldB Tryz.prog 106 1=some 1:=by kernel_rfl
theorem ztp:fieldB Tryz.prog 106 2=some 2:=by kernel_rfl
theorem ztq:fieldB Tryz.prog 106 3=some 3:=by kernel_rfl
theorem ke40:elemB Tryz.prog 40=some (60,4,56):=by kernel_rfl
theorem ziF:fieldB Tryz.prog 60 3=some 3:=by kernel_rfl
theorem kk58:kindB Tryz.prog 58=some (false,1):=by kernel_rfl
theorem keq78:eqTB Tryz.prog 78=some [2,2]:=by kernel_rfl
theorem zrx:fieldB Tryz.prog 60 0=some 0:=by kernel_rfl
theorem zry:fieldB Tryz.prog 60 1=some 1:=by kernel_rfl
theorem zrz:fieldB Tryz.prog 60 2=some 2:=by kernel_rfl
theorem hu22:Tryz.prog.underlying 22=some (.slice 5):=by kernel_rfl
theorem hs22:shB Tryz.prog 20 22=some ([.sl 1 (Dec.sh UInt8)]):=by kernel_rfl
theorem kb4:Tryz.prog.underlying 4=some .bool:=by kernel_rfl
noncomputable def zi9 (code:List UInt8):Option Bool:=
 some (decide ((code.length:Int)>1048576))
theorem zqy {code:List UInt8} {U0:Value} :Cn Tryz.prog 4 [U0] [] [(U0,lc code)] (zi9 code) (fun r (_:Unit)=>.bool r) fun _ _=>[]:=by
 unfold zi9
 refine Ci Tryz.func4 r r ?_
 rintro w S ⟨Z0,-⟩
 exact Sr<|Qs 1 r<|Nx<|Sr<|Qs 1 r<|Yo (Ln ke22 (Bc Z0) r)<|Qs 2 r<|Nx<|Wr<|Re () []
noncomputable def zgg (code:List UInt8):Option L1Cur:=
 bindC (loopO (fun (S1:Int × Int)=>(if decide (S1.2<(code.length:Int)) then (some (decide (S1.2<4000)))
 else (some false)).bind (fun (T5:Bool)=>
 if T5=true then ((idx code S1.2).bind fun E9=>
 some (.go (iand .i64 (IntKind.i64.wrap (IntKind.i64.wrap (IntKind.i64.wrap (S1.1*131)+(IntKind.i64.wrap (E9.toNat:Int)))+7)) 1073741823,IntKind.i64.wrap (S1.2+1))))
 else (some (.done (.go S1.1)))))
 (IntKind.i64.wrap ((10101:Int)+(code.length:Int)),(0:Int)))
 (fun (T3:Int)=>some (⟨code,0,T3⟩:L1Cur))
theorem zoR {code:List UInt8} {U0:Value} :Cn Tryz.prog 13 [U0] [] [(U0,lc code)] (zgg code) (fun _ (X:Nat)=>pt X) fun r X=>[.box X 66 [U0,iv r.i,iv r.h]]:=by
 unfold zgg
 refine Ci Tryz.func13 r r ?_
 rintro w S ⟨Z0,-⟩
 refine Sr<|Qs 1 r<|Nx<|Sr<|Qs 1 r<|Yo (Ln ke22 (Bc Z0) r)<|Qs 2 r<|Nx<|Sq<|Sr<|Qs 1 r<|Nx<|Ju [0] (fun T=>[(3,iv T)]) r1 (?_) fun T3=>?_
 ·exact Wb<|Lu [0] (fun T=>[(3,iv T.1),(4,iv T.2)]) r1 fun S1=>Sq<|Sq<|Jv [0,3,4] (fun T=>[(15,.bool T)]) r1 (Rg<|Qs 2 r<|Yo (Ln ke22 (Bc Z0) r)<|Qs 2 r<|It (fun H7=>Qg 2 (zd H7) r r<|Yo (Pt H7 r)<|Nl<|Bg () []) fun H7=>Of 2 (zt H7) r r<|Yo (Pf H7 r)<|Nl<|Bg () []) fun T5=>Ne<|Wc r (fun H8=>Sn<|Sq<|Wb<|Rg<|Qs 4 r<|Bi fun E9 H10=>Yo (Ix ke22 (Bc Z0) H10 r)<|Yo (Le kk5 (Bc Z0) H10 r)<|Yo (Y.conv ki5 ki3 r)<|Qs 4 r<|Nl<|Bn<|Ne<|Rg<|Qs 3 r<|Nl<|Lg () []) fun H8=>Wx<|Tx<|Ex<|Be<|Jg () []
 exact Ne<|Sr<|Qs 2 r<|Yo (Bd kp66 kz66 (Pc r (Cb Z0)<|Pc r (Cp r)<|Pz) r)<|Fo (Bx r (Ca ⟨Ob Z0,Op',Op',⟨⟩⟩)) fun B11=>Qs 1 r<|Nx<|Wr<|Re B11 [0]
noncomputable def zcE (b:UInt8):Option (List UInt8):=
 bindC (loopO (fun (S2:Int × List UInt8)=>if decide (S2.1<32) then ((app 1 S2.2 ([b])).bind fun E9=>
 some (.go (IntKind.i64.wrap (S2.1+1),E9)))
 else (some (.done (.go S2.2))))
 ((0:Int),([]:List UInt8)))
 (fun (T4:List UInt8)=>some T4)
theorem zfj {b:UInt8} :Cn Tryz.prog 14 [.int .u8 (b.toNat:Int)] [] [] (zcE b) (fun r (_:Unit)=>strV r) fun _ _=>[]:=by
 unfold zcE
 refine Ci Tryz.func14 r r ?_
 rintro w S -
 refine Sr<|Qs 1 r<|Nx<|Sr<|Fo (Bs ([]:List UInt8) ke22 kz5) fun B1=>Qs 1 r<|Nx<|Sq<|Sr<|Qs 1 r<|Nx<|Jn Value [] [] (fun _ X=>[(3,X)]) (fun T X=>[.own X (lc T)]) r2 r2 (?_) fun T4 X5=>?_
 ·exact Wb<|Lp Value [0] [] (fun T X=>[(3,X),(4,iv T.1)]) (fun T X=>[.own X (lc T.2)]) (.slice (some ⟨B1,0,none⟩) 0 0) [0] r2 r2 fun S2 X3=>Sq<|Sr<|Qs 2 r<|Nx<|Wc r (fun H6=>Sn<|Sq<|Wb<|Rg<|Qs 2 r<|Fo (Bs [b] ke22 kz5) fun B7=>Bi fun E9 H10=>Fo (Ap [1] H10 ke22 kz5 r (Oc 0 r)) fun V8=>Qs 1 r<|Nl<|Bn<|Ne<|Rg<|Qs 3 r<|Nl<|Lg V8 [0]) fun H6=>Wx<|Tx<|Ex<|Be<|Jg X3 [0]
 exact Ne<|Sr<|Qs 1 r<|Yo (Y.toStr ke22 ki5 ks9 (Oc 0 r) r)<|Qs 1 r<|Nx<|Wr<|Re () []
noncomputable def zbr (c:L1Cur):Option (Int × L1Cur):=
 bindC (if decide (c.i<(c.b.length:Int)) then ((idx c.b c.i).bind fun E4=>
 some (.go (iand .i64 (IntKind.i64.wrap (iand .i64 (ixor .i64 (ishr .i64 (IntKind.i64.wrap (IntKind.i64.wrap (c.h*6364136223846793005)+1442695040888963407)) 33) (ishr .i64 (IntKind.i64.wrap (IntKind.i64.wrap (c.h*6364136223846793005)+1442695040888963407)) 45)) 255+(IntKind.i64.wrap (E4.toNat:Int)))) 255,IntKind.i64.wrap (c.i+1))))
 else (some (.go (iand .i64 (ixor .i64 (ishr .i64 (IntKind.i64.wrap (IntKind.i64.wrap (c.h*6364136223846793005)+1442695040888963407)) 33) (ishr .i64 (IntKind.i64.wrap (IntKind.i64.wrap (c.h*6364136223846793005)+1442695040888963407)) 45)) 255,c.i))))
 (fun (T1:Int × Int)=>some (T1.1,(⟨c.b,T1.2,IntKind.i64.wrap (IntKind.i64.wrap (c.h*6364136223846793005)+1442695040888963407)⟩:L1Cur)))
theorem zch {c:L1Cur} {U0:Value} {U1:Nat} :Cn Tryz.prog 27 [pt U1] [.box U1 66 [U0,iv c.i,iv c.h]] [(U0,lc c.b)] (zbr c) (fun r (_:Unit)=>iv r.1) fun r _=>[.box U1 66 [U0,iv r.2.i,iv r.2.h]]:=by
 unfold zbr
 refine Ci Tryz.func27 r r ?_
 rintro w S ⟨Z0,-⟩
 refine Sr<|Qs 1 r<|Nx<|Sr<|Qs 3 r<|Yo (Fb zl4 r)<|Yo (Lb 0 kk3 r)<|Qs 3 r<|Yo (Fb zl4 r)<|Fu (Sb 0 kk3 r (Cp r) r)<|Nx<|Sq<|Dr [0] r hMix<|Aq [0,1] [0] r<|Ay 2 [0] r (Fb zl4 r)<|Ay 3 [0] r (Lb 0 kk3 r)<|Ay 4 [0] r (Y.shr (by decide) r r)<|Aq [5,6] [0] r<|Ay 7 [0] r (Fb zl4 r)<|Ay 8 [0] r (Lb 0 kk3 r)<|Ay 9 [0] r (Y.shr (by decide) r r)<|Aq [10,11,12] [0] r<|Az<|Ne<|Sq<|Sq<|Dr [0] r hMix<|Aq [0,1] [0] r<|Ay 2 [0] r (Fb zl3 r)<|Ay 3 [0] r (Lb 0 kk3 r)<|Aq [4,5] [0] r<|Ay 6 [0] r (Fb zrA r)<|Ay 7 [0] r (Lb 0 kk22 r)<|Ay 8 [0] r (Ln ke22 (Bc Z0) r)<|Aq [9] [0] r<|Az<|Ne<|Jn Unit [] [] (fun T _=>[(3,iv T.1)]) (fun T _=>[.box U1 66 [U0,iv T.2,iv (IntKind.i64.wrap (IntKind.i64.wrap (c.h*6364136223846793005)+1442695040888963407))]]) r2 r2 (?_) fun T1 X2=>?_
 ·refine Wc r (fun H3=>?_) fun H3=>?_
  ·exact Sq<|Dr [0] r hMix<|Aq [0,1,2] [0] r<|Ay 3 [0] r (Fb zrA r)<|Ay 4 [0] r (Lb 0 kk22 r)<|Aq [5,6] [0] r<|Ay 7 [0] r (Fb zl3 r)<|Ay 8 [0] r (Lb 0 kk3 r)<|Ai fun E4 H5=>Ay 9 [0] r (Ix ke22 (Bc Z0) H5 r)<|Ay 10 [0] r (Le kk5 (Bc Z0) H5 r)<|Ay 11 [0] r (Y.conv ki5 ki3 r)<|Aq [12,13,14] [0] r<|Az<|Ne<|Rg<|Qs 3 r<|Yo (Fb zl3 r)<|Yo (Lb 0 kk3 r)<|Qs 2 r<|Yo (Fb zl3 r)<|Fu (Sb 0 kk3 r (Cp r) r)<|Nl<|Jg () [0]
  exact Sk<|Jg () [0]
 exact Ne<|Sr<|Qs 2 r<|Nx<|Wr<|Re () [0]
noncomputable def zx (c:L1Cur) (n:Int):Option (Int × L1Cur):=
 if decide (n≤0) then (some ((0:Int),c))
 else (if decide (n≤256) then ((zbr c).bind fun R3=>
 (nz n).bind fun E6=>
 some (Int.tmod R3.1 n,(⟨c.b,R3.2.i,R3.2.h⟩:L1Cur)))
 else ((zbr c).bind fun R8=>
 (zbr (⟨c.b,R8.2.i,R8.2.h⟩:L1Cur)).bind fun R11=>
 (zbr (⟨c.b,R11.2.i,R11.2.h⟩:L1Cur)).bind fun R14=>
 (zbr (⟨c.b,R14.2.i,R14.2.h⟩:L1Cur)).bind fun R17=>
 (nz n).bind fun E20=>
 some (Int.tmod (IntKind.i64.wrap (IntKind.i64.wrap (IntKind.i64.wrap (IntKind.i64.wrap (R8.1*16777216)+(IntKind.i64.wrap (R11.1*65536)))+(IntKind.i64.wrap (R14.1*256)))+R17.1)) n,(⟨c.b,R17.2.i,R17.2.h⟩:L1Cur))))
theorem zA {c:L1Cur} {n:Int} {U0:Value} {U1:Nat} :Cn Tryz.prog 26 [pt U1,iv n] [.box U1 66 [U0,iv c.i,iv c.h]] [(U0,lc c.b)] (zx c n) (fun r (_:Unit)=>iv r.1) fun r _=>[.box U1 66 [U0,iv r.2.i,iv r.2.h]]:=by
 unfold zx
 refine Ci Tryz.func26 r r ?_
 rintro w S ⟨Z0,-⟩
 refine Sr<|Qs 1 r<|Nx<|Sq<|Sr<|Qs 2 r<|Nx<|Wc r (fun H1=>Sr<|Qs 1 r<|Nx<|Wr<|Tr<|Re () [0]) fun H1=>Sn<|Sq<|Sr<|Qs 2 r<|Nx<|Wc r (fun H2=>Sr<|Qs 1 r<|Bi fun R3 H4=>Fo (Cl [0] zch H4 r r1 ⟨(Bc Z0),⟨⟩⟩) fun _=>Qs 1 r<|Bi fun E6 H7=>Yo (Y.rem (nz_ne H7) r r)<|Qs 1 r<|Nx<|Wr<|Tr<|Re () [0]) fun H2=>Sn<|Sr<|Qs 1 r<|Bi fun R8 H9=>Fo (Cl [0] zch H9 r r1 ⟨(Bc Z0),⟨⟩⟩) fun _=>Qs 1 r<|Nx<|Sr<|Qs 1 r<|Bi fun R11 H12=>Fo (Cl [0] zch H12 r r1 ⟨(Bc Z0),⟨⟩⟩) fun _=>Qs 1 r<|Nx<|Sr<|Qs 1 r<|Bi fun R14 H15=>?_
 exact Fo (Cl [0] zch H15 r r1 ⟨(Bc Z0),⟨⟩⟩) fun _=>Qs 1 r<|Nx<|Sr<|Qs 1 r<|Bi fun R17 H18=>Fo (Cl [0] zch H18 r r1 ⟨(Bc Z0),⟨⟩⟩) fun _=>Qs 1 r<|Nx<|Sr<|Qs 11 r<|Bi fun E20 H21=>Yo (Y.rem (nz_ne H21) r r)<|Qs 1 r<|Nx<|Wr<|Re () [0]
noncomputable def z9 (c:L1Cur) (n:Int):Option (Bool × L1Cur):=
 (zx c n).bind fun R1=>
 some (decide (R1.1=0),(⟨c.b,R1.2.i,R1.2.h⟩:L1Cur))
theorem zbe {c:L1Cur} {n:Int} {U0:Value} {U1:Nat} :Cn Tryz.prog 15 [pt U1,iv n] [.box U1 66 [U0,iv c.i,iv c.h]] [(U0,lc c.b)] (z9 c n) (fun r (_:Unit)=>.bool r.1) fun r _=>[.box U1 66 [U0,iv r.2.i,iv r.2.h]]:=by
 unfold z9
 refine Ci Tryz.func15 r r ?_
 rintro w S ⟨Z0,-⟩
 exact Sr<|Qs 1 r<|Nx<|Sr<|Qs 2 r<|Bi fun R1 H2=>Fo (Cl [0] zA H2 r r1 ⟨(Bc Z0),⟨⟩⟩) fun _=>Qs 2 r<|Nx<|Wr<|Re () [0]
noncomputable def zgj (c:L1Cur):Option (List UInt8 × L1Cur):=
 (zbr c).bind fun R2=>
 bindC (loopO (fun (S5:Int × List UInt8)=>if decide (S5.1<32) then ((app 1 S5.2 ([toU8 (IntKind.i64.wrap (IntKind.i64.wrap (R2.1*S5.1)+(Int.tmod S5.1 3)))])).bind fun E12=>
 some (.go (IntKind.i64.wrap (S5.1+1),E12)))
 else (some (.done (.go S5.2))))
 ((0:Int),([]:List UInt8)))
 (fun (T7:List UInt8)=>(z9 (⟨c.b,R2.2.i,R2.2.h⟩:L1Cur) (15:Int)).bind fun R14=>
 if R14.1=true then ((zx (⟨c.b,R14.2.i,R14.2.h⟩:L1Cur) (32:Int)).bind fun R18=>
 (piece T7 0 R18.1).bind fun E21=>
 some (E21,(⟨c.b,R18.2.i,R18.2.h⟩:L1Cur)))
 else (some (T7,(⟨c.b,R14.2.i,R14.2.h⟩:L1Cur))))
theorem zoS {c:L1Cur} {U0:Value} {U1:Nat} :Cn Tryz.prog 16 [pt U1] [.box U1 66 [U0,iv c.i,iv c.h]] [(U0,lc c.b)] (zgj c) (fun r (_:Unit)=>strV r.1) fun r _=>[.box U1 66 [U0,iv r.2.i,iv r.2.h]]:=by
 unfold zgj
 refine Ci Tryz.func16 r r ?_
 rintro w S ⟨Z0,-⟩
 refine Sr<|Qs 1 r<|Nx<|Sr<|Fo (Bs ([]:List UInt8) ke22 kz5) fun B1=>Qs 1 r<|Nx<|Sr<|Qs 1 r<|Bi fun R2 H3=>Fo (Cl [1] zch H3 r r1 ⟨(Bc Z0),⟨⟩⟩) fun _=>Qs 1 r<|Nx<|Sq<|Sr<|Qs 1 r<|Nx<|Jn Value [0] [0] (fun _ X=>[(3,X)]) (fun T X=>[.own X (lc T)]) r2 r2 (?_) fun T7 X8=>?_
 ·refine Wb<|Lp Value [0,4] [0] (fun T X=>[(3,X),(5,iv T.1)]) (fun T X=>[.own X (lc T.2)]) (.slice (some ⟨B1,0,none⟩) 0 0) [0,0] r2 r2 fun S5 X6=>Sq<|Sr<|Qs 2 r<|Nx<|Wc r (fun H9=>?_) fun H9=>?_
  ·exact Sn<|Sq<|Wb<|Rg<|Qs 5 r<|Yo (Y.rem (by decide) r r)<|Qs 1 r<|Yo (Y.conv8 ki3 ki5 r)<|Fo (Bs [toU8 (IntKind.i64.wrap (IntKind.i64.wrap (R2.1*S5.1)+(Int.tmod S5.1 3)))] ke22 kz5) fun B10=>Bi fun E12 H13=>Fo (Ap [2] H13 ke22 kz5 r (Oc 0 r)) fun V11=>Qs 1 r<|Nl<|Bn<|Ne<|Rg<|Qs 3 r<|Nl<|Lg V11 [2,0]
  exact Wx<|Tx<|Ex<|Be<|Jg X6 [0,0]
 exact Ne<|Sq<|Sr<|Qs 1 r<|Bi fun R14 H15=>Fo (Cl [0] zbe H15 r r1 ⟨(Bc Z0),⟨⟩⟩) fun _=>Nx<|Wc r (fun H17=>Sr<|Qs 2 r<|Bi fun R18 H19=>Fo (Cl [0] zA H19 r r1 ⟨(Bc Z0),⟨⟩⟩) fun _=>Bi fun E21 H22=>Yo (Y.subs H22 ke22 (Oc 1 r) r r ⟨_,r⟩)<|Yo (Y.toStr ke22 ki5 ks9 (Can.sub H22 r (Oc 1 r)) r)<|Qs 1 r<|Nx<|Wr<|Tr<|Re () [0]) fun H17=>Sn<|Sr<|Qs 1 r<|Yo (Y.toStr ke22 ki5 ks9 (Oc 1 r) r)<|Qs 1 r<|Nx<|Wr<|Re () [0]
noncomputable def zbs (c:L1Cur) (list:List Int):Option (Int × L1Cur):=
 (zx c (list.length:Int)).bind fun R1=>
 (idx list R1.1).bind fun E4=>
 some (E4,(⟨c.b,R1.2.i,R1.2.h⟩:L1Cur))
theorem zcs {c:L1Cur} {list:List Int} {U0 U2:Value} {U1:Nat} :Cn Tryz.prog 17 [pt U1,U2] [.box U1 66 [U0,iv c.i,iv c.h]] [(U0,lc c.b),(U2,lc list)] (zbs c list) (fun r (_:Unit)=>iv r.1) fun r _=>[.box U1 66 [U0,iv r.2.i,iv r.2.h]]:=by
 unfold zbs
 refine Ci Tryz.func17 r r ?_
 rintro w S ⟨Z0,Z1,-⟩
 exact Sr<|Qs 1 r<|Nx<|Sr<|Qs 3 r<|Yo (Ln ke53 (Bc Z1) r)<|Bi fun R1 H2=>Fo (Cl [0] zA H2 r r1 ⟨(Bc Z0),⟨⟩⟩) fun _=>Bi fun E4 H5=>Yo (Ix ke53 (Bc Z1) H5 r)<|Yo (Le kk3 (Bc Z1) H5 r)<|Qs 1 r<|Nx<|Wr<|Re () [0]
noncomputable def zfy (code:List UInt8) (most:Int):Option Int:=
 if decide (IntKind.i64.wrap ((2:Int)+(IntKind.i64.wrap (Int.tdiv (code.length:Int) (20:Int))))>most) then (some most)
 else (some (IntKind.i64.wrap ((2:Int)+(IntKind.i64.wrap (Int.tdiv (code.length:Int) (20:Int))))))
theorem zn6 {code:List UInt8} {most:Int} {U0:Value} :Cn Tryz.prog 19 [U0,iv most] [] [(U0,lc code)] (zfy code most) (fun r (_:Unit)=>iv r) fun _ _=>[]:=by
 unfold zfy
 refine Ci Tryz.func19 r r ?_
 rintro w S ⟨Z0,-⟩
 exact Sr<|Qs 1 r<|Nx<|Sr<|Qs 1 r<|Yo (Ln ke22 (Bc Z0) r)<|Yo (Y.quo (by decide) r r)<|Qs 2 r<|Nx<|Sq<|Sr<|Qs 3 r<|Nx<|Wc r (fun H1=>Sr<|Qs 2 r<|Nx<|Wr<|Tr<|Re () []) fun H1=>Sn<|Sr<|Qs 2 r<|Nx<|Wr<|Re () []
noncomputable def zbd (x:Int) (low:Int) (high:Int):Option Bool:=
 (if decide (x≥low) then (some (decide (x≤high)))
 else (some false)).bind (fun (T1:Bool)=>
 some T1)
theorem zc3 {x:Int} {low:Int} {high:Int} :Cn Tryz.prog 39 [iv x,iv low,iv high] [] [] (zbd x low high) (fun r (_:Unit)=>.bool r) fun _ _=>[]:=by
 unfold zbd
 refine Ci Tryz.func39 r r ?_
 rintro w S -
 exact Sr<|Qs 1 r<|Nx<|Sq<|Jv [] (fun T=>[(6,.bool T)]) r1 (Rg<|Qs 4 r<|It (fun H3=>Qg 3 (zd H3) r r<|Yo (Pt H3 r)<|Qs 1 r<|Nl<|Bg () []) fun H3=>Of 3 (zt H3) r r<|Yo (Pf H3 r)<|Qs 1 r<|Nl<|Bg () []) fun T1=>Ne<|Wr<|Re () []
noncomputable def zeZ (n:Int):Option (List UInt8):=
 (zbd n 0 562949953421311).bind fun R1=>
 if !R1 then (some ([]))
 else (bindC (loopO (fun (S6:Int × List UInt8)=>if decide (S6.1≥128) then ((app 1 S6.2 ([toU8 (IntKind.i64.wrap ((128:Int)+(Int.tmod S6.1 128)))])).bind fun E13=>
 some (.go (IntKind.i64.wrap (Int.tdiv S6.1 128),E13)))
 else (some (.done (.go (S6.1,S6.2)))))
 (n,([]:List UInt8)))
 (fun (T8:Int × List UInt8)=>(app 1 T8.2 ([toU8 T8.1])).bind fun E17=>
 some E17))
theorem zjp {n:Int} :Cn Tryz.prog 69 [iv n] [] [] (zeZ n) (fun r (_:Unit)=>strV r) fun _ _=>[]:=by
 unfold zeZ
 refine Ci Tryz.func69 r r ?_
 rintro w S -
 refine Sr<|Qs 1 r<|Nx<|Sq<|Sr<|Qs 1 r<|Bi fun R1 H2=>Fo (Cl [] zc3 H2 r r1) fun _=>Qs 1 r<|Nx<|Wc r (fun H4=>Sr<|Qs 1 r<|Nx<|Wr<|Tr<|Re () []) fun H4=>Sn<|Sr<|Fo (Bs ([]:List UInt8) ke22 kz5) fun B5=>Qs 1 r<|Nx<|Sq<|Jn Value [] [] (fun T X=>[(0,iv T.1),(3,X)]) (fun T X=>[.own X (lc T.2)]) r2 r2 (?_) fun T8 X9=>?_
 ·refine Wb<|Lp Value [] [] (fun T X=>[(0,iv T.1),(3,X)]) (fun T X=>[.own X (lc T.2)]) (.slice (some ⟨B5,0,none⟩) 0 0) [0] r2 r2 fun S6 X7=>Sq<|Sr<|Qs 2 r<|Nx<|Wc r (fun H10=>?_) fun H10=>?_
  ·exact Sn<|Wb<|Sr<|Qs 2 r<|Yo (Y.rem (by decide) r r)<|Qs 1 r<|Yo (Y.conv8 ki3 ki5 r)<|Fo (Bs [toU8 (IntKind.i64.wrap ((128:Int)+(Int.tmod S6.1 128)))] ke22 kz5) fun B11=>Bi fun E13 H14=>Fo (Ap [1] H14 ke22 kz5 r (Oc 0 r)) fun V12=>Qs 1 r<|Nx<|Rg<|Qs 1 r<|Yo (Y.quo (by decide) r r)<|Qs 1 r<|Nl<|Bn<|Lg V12 [0]
  exact Wx<|Tx<|Ex<|Be<|Jg X7 [0]
 exact Ne<|Sr<|Qs 2 r<|Yo (Y.conv8 ki3 ki5 r)<|Fo (Bs [toU8 T8.1] ke22 kz5) fun B15=>Bi fun E17 H18=>Fo (Ap [1] H18 ke22 kz5 r (Oc 0 r)) fun V16=>Yo (Y.toStr ke22 ki5 ks9 (Oc 0 r) r)<|Qs 1 r<|Nx<|Wr<|Re () []
noncomputable def zgf (n:Int) (width:Int):Option (List UInt8):=
 ((zbd width 1 7).bind fun R3=>
 if !R3 then (some true)
 else (some (decide (n<0)))).bind (fun (T1:Bool)=>
 if T1=true then (some ([]))
 else (bindC (loopO (fun (S8:Int × List UInt8 × Int)=>if decide (S8.2.2<width) then ((cat ([toU8 (Int.tmod S8.1 256)]) S8.2.1).bind fun E14=>
 some (.go (IntKind.i64.wrap (Int.tdiv S8.1 256),E14,IntKind.i64.wrap (S8.2.2+1))))
 else (some (.done (.go (S8.1,S8.2.1)))))
 (n,[],(0:Int)))
 (fun (T10:Int × List UInt8)=>if decide (T10.1>0) then (some ([]))
 else (some T10.2))))
theorem zhH {n:Int} {width:Int} :Cn Tryz.prog 113 [iv n,iv width] [] [] (zgf n width) (fun r (_:Unit)=>strV r) fun _ _=>[]:=by
 unfold zgf
 refine Ci Tryz.func113 r r ?_
 rintro w S -
 refine Sr<|Qs 1 r<|Nx<|Sq<|Sq<|Jv [0,1] (fun T=>[(13,.bool T)]) r1 (Rg<|Qs 1 r<|Bi fun R3 H4=>Fo (Cl [] zc3 H4 r r1) fun _=>Qs 2 r<|It (fun H6=>Of 2 (zl H6) r r<|Yo (Pt H6 r)<|Nl<|Bg () []) fun H6=>Qg 2 (za H6) r r<|Yo (Pf H6 r)<|Nl<|Bg () []) fun T1=>Ne<|Wc r (fun H7=>Sr<|Qs 1 r<|Nx<|Wr<|Tr<|Re () []) fun H7=>Sn<|Sr<|Qs 1 r<|Nx<|Sq<|Sr<|Qs 1 r<|Nx<|Ju [] (fun T=>[(0,iv T.1),(5,strV T.2)]) r1 (?_) fun T10=>?_
 ·refine Wb<|Lu [1] (fun T=>[(0,iv T.1),(5,strV T.2.1),(6,iv T.2.2)]) r1 fun S8=>Sq<|Sr<|Qs 3 r<|Nx<|Wc r (fun H12=>?_) fun H12=>?_
  ·exact Sn<|Sq<|Wb<|Sr<|Qs 1 r<|Yo (Y.rem (by decide) r r)<|Yo (Y.conv8 ki3 ki5 r)<|Fo (Bs [toU8 (Int.tmod S8.1 256)] ke22 kz5) fun B13=>Yo (Y.toStr ke22 ki5 ks9 (Oc 0 r) r)<|Qs 1 r<|Bi fun E14 H15=>Yo (Y.cat H15 r r)<|Qs 1 r<|Nx<|Rg<|Qs 1 r<|Yo (Y.quo (by decide) r r)<|Qs 1 r<|Nl<|Bn<|Ne<|Rg<|Qs 3 r<|Nl<|Lg () []
  exact Wx<|Tx<|Ex<|Be<|Jg () []
 exact Ne<|Sq<|Sr<|Qs 2 r<|Nx<|Wc r (fun H16=>Sr<|Qs 1 r<|Nx<|Wr<|Tr<|Re () []) fun H16=>Sn<|Sr<|Qs 2 r<|Nx<|Wr<|Re () []
noncomputable def zeY (kind:Int) (n:Int):Option (List UInt8):=
 ((zbd kind 0 255).bind fun R3=>
 if !R3 then (some true)
 else ((zbd n 0 562949953421311).bind fun R7=>
 some (!R7))).bind (fun (T1:Bool)=>
 if T1=true then (some ([]))
 else ((zgf n 7).bind fun R12=>
 (cat ([toU8 kind,(0:UInt8),(0:UInt8),(0:UInt8),(0:UInt8)]) R12).bind fun E17=>
 some E17))
theorem zm0 {kind:Int} {n:Int} :Cn Tryz.prog 71 [iv kind,iv n] [] [] (zeY kind n) (fun r (_:Unit)=>strV r) fun _ _=>[]:=by
 unfold zeY
 refine Ci Tryz.func71 r r ?_
 rintro w S -
 refine Sr<|Qs 1 r<|Nx<|Sq<|Sq<|Jv [0,1] (fun T=>[(12,.bool T)]) r1 (?_) fun T1=>?_
 ·exact Rg<|Qs 1 r<|Bi fun R3 H4=>Fo (Cl [] zc3 H4 r r1) fun _=>Qs 2 r<|It (fun H6=>Of 3 (zl H6) r r<|Yo (Pt H6 r)<|Nl<|Bg () []) fun H6=>Qg 1 (za H6) r r<|Bi fun R7 H8=>Fg (gdA (za H6)) (Cl [] zc3 H8 r r1) fun _=>Qg 1 (za H6) r r<|Yo (Pf H6 r)<|Nl<|Bg () []
 refine Ne<|Wc r (fun H10=>Sr<|Qs 1 r<|Nx<|Wr<|Tr<|Re () []) fun H10=>Sn<|Sq<|Wi fun R12 H13=>Wi fun E17 H18=>Jw Unit [] [] (fun _=>[(4,strV E17)]) (fun _=>[]) r1 r1 (?_) fun X20=>?_
 ·refine Dr [] r hMix<|Aq [0] [] r<|Ay 1 [] r (Y.conv8 ki3 ki5 r)<|Aq [4] [] r<|A2 2 5 (?_)<|?_
  ·exact Xe [] r (Bs [toU8 kind,(0:UInt8),(0:UInt8),(0:UInt8),(0:UInt8)] ke22 kz5) fun B21=>A2 3 5 (Xy [] r (Y.toStr ke22 ki5 ks9 (Oc 0 r) r)<|A1 5<|Xe [] r (Cl [] zhH H13 r r1) fun _=>Ay 6 [] r (Y.cat H18 r r)<|Aq [7] [] r<|Az<|Bg () [])<|Xe [] r (Cl [] zhH H13 r r1) fun _=>A1 3<|Xy [] r (Y.toStr ke22 ki5 ks9 (Oc 0 r) r)<|Ay 6 [] r (Y.cat H18 r r)<|Aq [7] [] r<|Az<|Bg () []
  exact Xe [] r (Cl [] zhH H13 r r1) fun _=>A1 2<|Xe [] r (Bs [toU8 kind,(0:UInt8),(0:UInt8),(0:UInt8),(0:UInt8)] ke22 kz5) fun B23=>A1 3<|Xy [] r (Y.toStr ke22 ki5 ks9 (Oc 0 r) r)<|Ay 6 [] r (Y.cat H18 r r)<|Aq [7] [] r<|Az<|Bg () []
 exact Ne<|Wr<|Re () []
noncomputable def zM (s:List UInt8) (at_:Int):Option Int:=
 (sidx s at_).bind fun E1=>
 (sidx s (IntKind.i64.wrap (at_+1))).bind fun E3=>
 (sidx s (IntKind.i64.wrap (at_+2))).bind fun E5=>
 (sidx s (IntKind.i64.wrap (at_+3))).bind fun E7=>
 some (ior .i64 (ior .i64 (ior .i64 (IntKind.i64.wrap (E1.toNat:Int)) (ishl .i64 (IntKind.i64.wrap (E3.toNat:Int)) 8)) (ishl .i64 (IntKind.i64.wrap (E5.toNat:Int)) 16)) (ishl .i64 (IntKind.i64.wrap (E7.toNat:Int)) 24))
theorem zeG {s:List UInt8} {at_:Int} :Cn Tryz.prog 153 [strV s,iv at_] [] [] (zM s at_) (fun r (_:Unit)=>iv r) fun _ _=>[]:=by
 unfold zM
 refine Ci Tryz.func153 r r ?_
 rintro w S -
 exact Sr<|Qs 1 r<|Nx<|Sq<|Dr [] r hMix<|Aq [0,1] [] r<|Ai fun E1 H2=>Ay 2 [] r (Y.sidx H2 ks9 r r)<|Ay 3 [] r (Y.conv ki5 ki3 r)<|Aq [4,5,6] [] r<|Ai fun E3 H4=>Ay 7 [] r (Y.sidx H4 ks9 r r)<|Ay 8 [] r (Y.conv ki5 ki3 r)<|Ay 9 [] r (Y.shl (by decide) r r)<|Aq [10,11,12,13] [] r<|Ai fun E5 H6=>Ay 14 [] r (Y.sidx H6 ks9 r r)<|Ay 15 [] r (Y.conv ki5 ki3 r)<|Ay 16 [] r (Y.shl (by decide) r r)<|Aq [17,18,19,20] [] r<|Ai fun E7 H8=>Ay 21 [] r (Y.sidx H8 ks9 r r)<|Ay 22 [] r (Y.conv ki5 ki3 r)<|Ay 23 [] r (Y.shl (by decide) r r)<|Aq [24,25] [] r<|Az<|Ne<|Wr<|Re () []
noncomputable def zbO (x:Int):Option Int:=
 some (iand .i64 x 4294967295)
theorem zp {x:Int} :Cn Tryz.prog 155 [iv x] [] [] (zbO x) (fun r (_:Unit)=>iv r) fun _ _=>[]:=by
 unfold zbO
 refine Ci Tryz.func155 r r ?_
 rintro w S -
 exact Sr<|Qs 1 r<|Nx<|Sr<|Qs 3 r<|Nx<|Wr<|Re () []
noncomputable def zcw (x:Int) (n:Int):Option Int:=
 (nn n).bind fun E1=>
 (zbO (ior .i64 (ishl .i64 x n) (ishr .i64 x (IntKind.u64.wrap ((32:Int) - n))))).bind fun R3=>
 some R3
theorem zr {x:Int} {n:Int} :Cn Tryz.prog 185 [iv x,.int .u64 n] [] [] (zcw x n) (fun r (_:Unit)=>iv r) fun _ _=>[]:=by
 unfold zcw
 refine Ci Tryz.func185 r r ?_
 rintro w S -
 exact Sr<|Qs 1 r<|Nx<|Sr<|Qs 2 r<|Bi fun E1 H2=>Yo (Y.shl (nn_ge H2) r r)<|Qs 3 r<|Yo (Y.shr (zfD r _) r r)<|Qs 1 r<|Bi fun R3 H4=>Fo (Cl [] zp H4 r r1) fun _=>Qs 1 r<|Nx<|Wr<|Re () []
noncomputable def zj (s:List Int) (a:Int) (b:Int) (c:Int) (d:Int):Option (List Int):=
 (idx s a).bind fun E1=>
 (idx s b).bind fun E3=>
 (zbO (IntKind.i64.wrap (E1+E3))).bind fun R5=>
 (idx (s.set a.toNat R5) d).bind fun E10=>
 (idx (s.set a.toNat R5) a).bind fun E12=>
 (zcw (ixor .i64 E10 E12) (16:Int)).bind fun R14=>
 (idx ((s.set a.toNat R5).set d.toNat R14) c).bind fun E19=>
 (idx ((s.set a.toNat R5).set d.toNat R14) d).bind fun E21=>
 (zbO (IntKind.i64.wrap (E19+E21))).bind fun R23=>
 (idx (((s.set a.toNat R5).set d.toNat R14).set c.toNat R23) b).bind fun E28=>
 (idx (((s.set a.toNat R5).set d.toNat R14).set c.toNat R23) c).bind fun E30=>
 (zcw (ixor .i64 E28 E30) (12:Int)).bind fun R32=>
 (idx ((((s.set a.toNat R5).set d.toNat R14).set c.toNat R23).set b.toNat R32) a).bind fun E37=>
 (idx ((((s.set a.toNat R5).set d.toNat R14).set c.toNat R23).set b.toNat R32) b).bind fun E39=>
 (zbO (IntKind.i64.wrap (E37+E39))).bind fun R41=>
 (idx (((((s.set a.toNat R5).set d.toNat R14).set c.toNat R23).set b.toNat R32).set a.toNat R41) d).bind fun E46=>
 (idx (((((s.set a.toNat R5).set d.toNat R14).set c.toNat R23).set b.toNat R32).set a.toNat R41) a).bind fun E48=>
 (zcw (ixor .i64 E46 E48) (8:Int)).bind fun R50=>
 (idx ((((((s.set a.toNat R5).set d.toNat R14).set c.toNat R23).set b.toNat R32).set a.toNat R41).set d.toNat R50) c).bind fun E55=>
 (idx ((((((s.set a.toNat R5).set d.toNat R14).set c.toNat R23).set b.toNat R32).set a.toNat R41).set d.toNat R50) d).bind fun E57=>
 (zbO (IntKind.i64.wrap (E55+E57))).bind fun R59=>
 (idx (((((((s.set a.toNat R5).set d.toNat R14).set c.toNat R23).set b.toNat R32).set a.toNat R41).set d.toNat R50).set c.toNat R59) b).bind fun E64=>
 (idx (((((((s.set a.toNat R5).set d.toNat R14).set c.toNat R23).set b.toNat R32).set a.toNat R41).set d.toNat R50).set c.toNat R59) c).bind fun E66=>
 (zcw (ixor .i64 E64 E66) (7:Int)).bind fun R68=>
 some ((((((((s.set a.toNat R5).set d.toNat R14).set c.toNat R23).set b.toNat R32).set a.toNat R41).set d.toNat R50).set c.toNat R59).set b.toNat R68)
theorem zbK {s:List Int} {a:Int} {b:Int} {c:Int} {d:Int} {U0:Value} :Cn Tryz.prog 154 [U0,iv a,iv b,iv c,iv d] [.own U0 (lc s)] [] (zj s a b c d) (fun _ (X:Value)=>X) fun r X=>[.own X (lc r)]:=by
 unfold zj
 refine Ci Tryz.func154 r r ?_
 rintro w S -
 refine Sr<|Qs 1 r<|Nx<|Sq<|Wi fun E1 H2=>Wi fun E3 H4=>Wi fun R5 H6=>Jw Unit [0,1,2,3,4] [] (fun _=>[]) (fun _=>[.own U0 (lc (s.set a.toNat R5))]) r1 r1 (?_) fun X9=>?_
 ·refine Dr [] r hMix<|Aq [0,1,2,3,6,7] [] r<|A2 4 8 (?_)<|?_
  ·refine Xy [] r (Ix ke53 (Oc 0 r) H2 r)<|A2 5 8 (Xy [] r (Le kk3 (Oc 0 r) H2 r)<|A1 8<|Xy [] r (Ix ke53 (Oc 0 r) H4 r)<|A1 9<|Xy [] r (Le kk3 (Oc 0 r) H4 r)<|Aq [10] [] r<|A1 11<|Xe [] r (Cl [] zp H6 r r1) fun _=>A1 12<|Xy [] r (Ix ke53 (Oc 0 r) H2 r)<|A1 13<|Xu [] r (Se R5 0 kk3 H2 r (Cp r) r)<|Az<|Bg () [0])<|Xy [] r (Ix ke53 (Oc 0 r) H4 r)<|A2 5 9 (Xy [] r (Le kk3 (Oc 0 r) H2 r)<|A1 9<|Xy [] r (Le kk3 (Oc 0 r) H4 r)<|Aq [10] [] r<|A1 11<|Xe [] r (Cl [] zp H6 r r1) fun _=>A1 12<|Xy [] r (Ix ke53 (Oc 0 r) H2 r)<|A1 13<|Xu [] r (Se R5 0 kk3 H2 r (Cp r) r)<|Az<|Bg () [0])<|Xy [] r (Le kk3 (Oc 0 r) H4 r)<|A1 5<|Xy [] r (Le kk3 (Oc 0 r) H2 r)<|Aq [10] [] r<|A1 11<|Xe [] r (Cl [] zp H6 r r1) fun _=>?_
   exact A1 12<|Xy [] r (Ix ke53 (Oc 0 r) H2 r)<|A1 13<|Xu [] r (Se R5 0 kk3 H2 r (Cp r) r)<|Az<|Bg () [0]
  refine Xy [] r (Ix ke53 (Oc 0 r) H4 r)<|A2 4 9 (?_)<|?_
  ·exact Xy [] r (Ix ke53 (Oc 0 r) H2 r)<|A2 5 9 (Xy [] r (Le kk3 (Oc 0 r) H2 r)<|A1 9<|Xy [] r (Le kk3 (Oc 0 r) H4 r)<|Aq [10] [] r<|A1 11<|Xe [] r (Cl [] zp H6 r r1) fun _=>A1 12<|Xy [] r (Ix ke53 (Oc 0 r) H2 r)<|A1 13<|Xu [] r (Se R5 0 kk3 H2 r (Cp r) r)<|Az<|Bg () [0])<|Xy [] r (Le kk3 (Oc 0 r) H4 r)<|A1 5<|Xy [] r (Le kk3 (Oc 0 r) H2 r)<|Aq [10] [] r<|A1 11<|Xe [] r (Cl [] zp H6 r r1) fun _=>A1 12<|Xy [] r (Ix ke53 (Oc 0 r) H2 r)<|A1 13<|Xu [] r (Se R5 0 kk3 H2 r (Cp r) r)<|Az<|Bg () [0]
  exact Xy [] r (Le kk3 (Oc 0 r) H4 r)<|A1 4<|Xy [] r (Ix ke53 (Oc 0 r) H2 r)<|A1 5<|Xy [] r (Le kk3 (Oc 0 r) H2 r)<|Aq [10] [] r<|A1 11<|Xe [] r (Cl [] zp H6 r r1) fun _=>A1 12<|Xy [] r (Ix ke53 (Oc 0 r) H2 r)<|A1 13<|Xu [] r (Se R5 0 kk3 H2 r (Cp r) r)<|Az<|Bg () [0]
 refine Ne<|Sq<|Wi fun E10 H11=>Wi fun E12 H13=>Wi fun R14 H15=>Jw Unit [0,1,2,3,4] [] (fun _=>[]) (fun _=>[.own U0 (lc ((s.set a.toNat R5).set d.toNat R14))]) r1 r1 (?_) fun X18=>?_
 ·refine Dr [] r hMix<|Aq [0,1,2,3,6,7] [] r<|A2 4 8 (?_)<|?_
  ·refine Xy [] r (Ix ke53 (Oc 0 r) H11 r)<|A2 5 8 (?_)<|?_
   ·exact Xy [] r (Le kk3 (Oc 0 r) H11 r)<|A1 8<|Xy [] r (Ix ke53 (Oc 0 r) H13 r)<|A1 9<|Xy [] r (Le kk3 (Oc 0 r) H13 r)<|Aq [10] [] r<|A1 11<|Xe [] r (Cl [] zr H15 r r1) fun _=>A1 12<|Xy [] r (Ix ke53 (Oc 0 r) H11 r)<|A1 13<|Xu [] r (Se R14 0 kk3 H11 r (Cp r) r)<|Az<|Bg () [0]
   exact Xy [] r (Ix ke53 (Oc 0 r) H13 r)<|A2 5 9 (Xy [] r (Le kk3 (Oc 0 r) H11 r)<|A1 9<|Xy [] r (Le kk3 (Oc 0 r) H13 r)<|Aq [10] [] r<|A1 11<|Xe [] r (Cl [] zr H15 r r1) fun _=>A1 12<|Xy [] r (Ix ke53 (Oc 0 r) H11 r)<|A1 13<|Xu [] r (Se R14 0 kk3 H11 r (Cp r) r)<|Az<|Bg () [0])<|Xy [] r (Le kk3 (Oc 0 r) H13 r)<|A1 5<|Xy [] r (Le kk3 (Oc 0 r) H11 r)<|Aq [10] [] r<|A1 11<|Xe [] r (Cl [] zr H15 r r1) fun _=>A1 12<|Xy [] r (Ix ke53 (Oc 0 r) H11 r)<|A1 13<|Xu [] r (Se R14 0 kk3 H11 r (Cp r) r)<|Az<|Bg () [0]
  refine Xy [] r (Ix ke53 (Oc 0 r) H13 r)<|A2 4 9 (?_)<|?_
  ·exact Xy [] r (Ix ke53 (Oc 0 r) H11 r)<|A2 5 9 (Xy [] r (Le kk3 (Oc 0 r) H11 r)<|A1 9<|Xy [] r (Le kk3 (Oc 0 r) H13 r)<|Aq [10] [] r<|A1 11<|Xe [] r (Cl [] zr H15 r r1) fun _=>A1 12<|Xy [] r (Ix ke53 (Oc 0 r) H11 r)<|A1 13<|Xu [] r (Se R14 0 kk3 H11 r (Cp r) r)<|Az<|Bg () [0])<|Xy [] r (Le kk3 (Oc 0 r) H13 r)<|A1 5<|Xy [] r (Le kk3 (Oc 0 r) H11 r)<|Aq [10] [] r<|A1 11<|Xe [] r (Cl [] zr H15 r r1) fun _=>A1 12<|Xy [] r (Ix ke53 (Oc 0 r) H11 r)<|A1 13<|Xu [] r (Se R14 0 kk3 H11 r (Cp r) r)<|Az<|Bg () [0]
  exact Xy [] r (Le kk3 (Oc 0 r) H13 r)<|A1 4<|Xy [] r (Ix ke53 (Oc 0 r) H11 r)<|A1 5<|Xy [] r (Le kk3 (Oc 0 r) H11 r)<|Aq [10] [] r<|A1 11<|Xe [] r (Cl [] zr H15 r r1) fun _=>A1 12<|Xy [] r (Ix ke53 (Oc 0 r) H11 r)<|A1 13<|Xu [] r (Se R14 0 kk3 H11 r (Cp r) r)<|Az<|Bg () [0]
 refine Ne<|Sq<|Wi fun E19 H20=>Wi fun E21 H22=>Wi fun R23 H24=>Jw Unit [0,1,2,3,4] [] (fun _=>[]) (fun _=>[.own U0 (lc (((s.set a.toNat R5).set d.toNat R14).set c.toNat R23))]) r1 r1 (?_) fun X27=>?_
 ·refine Dr [] r hMix<|Aq [0,1,2,3,6,7] [] r<|A2 4 8 (?_)<|?_
  ·refine Xy [] r (Ix ke53 (Oc 0 r) H20 r)<|A2 5 8 (?_)<|?_
   ·exact Xy [] r (Le kk3 (Oc 0 r) H20 r)<|A1 8<|Xy [] r (Ix ke53 (Oc 0 r) H22 r)<|A1 9<|Xy [] r (Le kk3 (Oc 0 r) H22 r)<|Aq [10] [] r<|A1 11<|Xe [] r (Cl [] zp H24 r r1) fun _=>A1 12<|Xy [] r (Ix ke53 (Oc 0 r) H20 r)<|A1 13<|Xu [] r (Se R23 0 kk3 H20 r (Cp r) r)<|Az<|Bg () [0]
   exact Xy [] r (Ix ke53 (Oc 0 r) H22 r)<|A2 5 9 (Xy [] r (Le kk3 (Oc 0 r) H20 r)<|A1 9<|Xy [] r (Le kk3 (Oc 0 r) H22 r)<|Aq [10] [] r<|A1 11<|Xe [] r (Cl [] zp H24 r r1) fun _=>A1 12<|Xy [] r (Ix ke53 (Oc 0 r) H20 r)<|A1 13<|Xu [] r (Se R23 0 kk3 H20 r (Cp r) r)<|Az<|Bg () [0])<|Xy [] r (Le kk3 (Oc 0 r) H22 r)<|A1 5<|Xy [] r (Le kk3 (Oc 0 r) H20 r)<|Aq [10] [] r<|A1 11<|Xe [] r (Cl [] zp H24 r r1) fun _=>A1 12<|Xy [] r (Ix ke53 (Oc 0 r) H20 r)<|A1 13<|Xu [] r (Se R23 0 kk3 H20 r (Cp r) r)<|Az<|Bg () [0]
  refine Xy [] r (Ix ke53 (Oc 0 r) H22 r)<|A2 4 9 (?_)<|?_
  ·exact Xy [] r (Ix ke53 (Oc 0 r) H20 r)<|A2 5 9 (Xy [] r (Le kk3 (Oc 0 r) H20 r)<|A1 9<|Xy [] r (Le kk3 (Oc 0 r) H22 r)<|Aq [10] [] r<|A1 11<|Xe [] r (Cl [] zp H24 r r1) fun _=>A1 12<|Xy [] r (Ix ke53 (Oc 0 r) H20 r)<|A1 13<|Xu [] r (Se R23 0 kk3 H20 r (Cp r) r)<|Az<|Bg () [0])<|Xy [] r (Le kk3 (Oc 0 r) H22 r)<|A1 5<|Xy [] r (Le kk3 (Oc 0 r) H20 r)<|Aq [10] [] r<|A1 11<|Xe [] r (Cl [] zp H24 r r1) fun _=>A1 12<|Xy [] r (Ix ke53 (Oc 0 r) H20 r)<|A1 13<|Xu [] r (Se R23 0 kk3 H20 r (Cp r) r)<|Az<|Bg () [0]
  exact Xy [] r (Le kk3 (Oc 0 r) H22 r)<|A1 4<|Xy [] r (Ix ke53 (Oc 0 r) H20 r)<|A1 5<|Xy [] r (Le kk3 (Oc 0 r) H20 r)<|Aq [10] [] r<|A1 11<|Xe [] r (Cl [] zp H24 r r1) fun _=>A1 12<|Xy [] r (Ix ke53 (Oc 0 r) H20 r)<|A1 13<|Xu [] r (Se R23 0 kk3 H20 r (Cp r) r)<|Az<|Bg () [0]
 refine Ne<|Sq<|Wi fun E28 H29=>Wi fun E30 H31=>Wi fun R32 H33=>Jw Unit [0,1,2,3,4] [] (fun _=>[]) (fun _=>[.own U0 (lc ((((s.set a.toNat R5).set d.toNat R14).set c.toNat R23).set b.toNat R32))]) r1 r1 (?_) fun X36=>?_
 ·refine Dr [] r hMix<|Aq [0,1,2,3,6,7] [] r<|A2 4 8 (?_)<|?_
  ·refine Xy [] r (Ix ke53 (Oc 0 r) H29 r)<|A2 5 8 (?_)<|?_
   ·exact Xy [] r (Le kk3 (Oc 0 r) H29 r)<|A1 8<|Xy [] r (Ix ke53 (Oc 0 r) H31 r)<|A1 9<|Xy [] r (Le kk3 (Oc 0 r) H31 r)<|Aq [10] [] r<|A1 11<|Xe [] r (Cl [] zr H33 r r1) fun _=>A1 12<|Xy [] r (Ix ke53 (Oc 0 r) H29 r)<|A1 13<|Xu [] r (Se R32 0 kk3 H29 r (Cp r) r)<|Az<|Bg () [0]
   exact Xy [] r (Ix ke53 (Oc 0 r) H31 r)<|A2 5 9 (Xy [] r (Le kk3 (Oc 0 r) H29 r)<|A1 9<|Xy [] r (Le kk3 (Oc 0 r) H31 r)<|Aq [10] [] r<|A1 11<|Xe [] r (Cl [] zr H33 r r1) fun _=>A1 12<|Xy [] r (Ix ke53 (Oc 0 r) H29 r)<|A1 13<|Xu [] r (Se R32 0 kk3 H29 r (Cp r) r)<|Az<|Bg () [0])<|Xy [] r (Le kk3 (Oc 0 r) H31 r)<|A1 5<|Xy [] r (Le kk3 (Oc 0 r) H29 r)<|Aq [10] [] r<|A1 11<|Xe [] r (Cl [] zr H33 r r1) fun _=>A1 12<|Xy [] r (Ix ke53 (Oc 0 r) H29 r)<|A1 13<|Xu [] r (Se R32 0 kk3 H29 r (Cp r) r)<|Az<|Bg () [0]
  refine Xy [] r (Ix ke53 (Oc 0 r) H31 r)<|A2 4 9 (?_)<|?_
  ·exact Xy [] r (Ix ke53 (Oc 0 r) H29 r)<|A2 5 9 (Xy [] r (Le kk3 (Oc 0 r) H29 r)<|A1 9<|Xy [] r (Le kk3 (Oc 0 r) H31 r)<|Aq [10] [] r<|A1 11<|Xe [] r (Cl [] zr H33 r r1) fun _=>A1 12<|Xy [] r (Ix ke53 (Oc 0 r) H29 r)<|A1 13<|Xu [] r (Se R32 0 kk3 H29 r (Cp r) r)<|Az<|Bg () [0])<|Xy [] r (Le kk3 (Oc 0 r) H31 r)<|A1 5<|Xy [] r (Le kk3 (Oc 0 r) H29 r)<|Aq [10] [] r<|A1 11<|Xe [] r (Cl [] zr H33 r r1) fun _=>A1 12<|Xy [] r (Ix ke53 (Oc 0 r) H29 r)<|A1 13<|Xu [] r (Se R32 0 kk3 H29 r (Cp r) r)<|Az<|Bg () [0]
  exact Xy [] r (Le kk3 (Oc 0 r) H31 r)<|A1 4<|Xy [] r (Ix ke53 (Oc 0 r) H29 r)<|A1 5<|Xy [] r (Le kk3 (Oc 0 r) H29 r)<|Aq [10] [] r<|A1 11<|Xe [] r (Cl [] zr H33 r r1) fun _=>A1 12<|Xy [] r (Ix ke53 (Oc 0 r) H29 r)<|A1 13<|Xu [] r (Se R32 0 kk3 H29 r (Cp r) r)<|Az<|Bg () [0]
 refine Ne<|Sq<|Wi fun E37 H38=>Wi fun E39 H40=>Wi fun R41 H42=>Jw Unit [0,1,2,3,4] [] (fun _=>[]) (fun _=>[.own U0 (lc (((((s.set a.toNat R5).set d.toNat R14).set c.toNat R23).set b.toNat R32).set a.toNat R41))]) r1 r1 (?_) fun X45=>?_
 ·refine Dr [] r hMix<|Aq [0,1,2,3,6,7] [] r<|A2 4 8 (?_)<|?_
  ·refine Xy [] r (Ix ke53 (Oc 0 r) H38 r)<|A2 5 8 (?_)<|?_
   ·exact Xy [] r (Le kk3 (Oc 0 r) H38 r)<|A1 8<|Xy [] r (Ix ke53 (Oc 0 r) H40 r)<|A1 9<|Xy [] r (Le kk3 (Oc 0 r) H40 r)<|Aq [10] [] r<|A1 11<|Xe [] r (Cl [] zp H42 r r1) fun _=>A1 12<|Xy [] r (Ix ke53 (Oc 0 r) H38 r)<|A1 13<|Xu [] r (Se R41 0 kk3 H38 r (Cp r) r)<|Az<|Bg () [0]
   exact Xy [] r (Ix ke53 (Oc 0 r) H40 r)<|A2 5 9 (Xy [] r (Le kk3 (Oc 0 r) H38 r)<|A1 9<|Xy [] r (Le kk3 (Oc 0 r) H40 r)<|Aq [10] [] r<|A1 11<|Xe [] r (Cl [] zp H42 r r1) fun _=>A1 12<|Xy [] r (Ix ke53 (Oc 0 r) H38 r)<|A1 13<|Xu [] r (Se R41 0 kk3 H38 r (Cp r) r)<|Az<|Bg () [0])<|Xy [] r (Le kk3 (Oc 0 r) H40 r)<|A1 5<|Xy [] r (Le kk3 (Oc 0 r) H38 r)<|Aq [10] [] r<|A1 11<|Xe [] r (Cl [] zp H42 r r1) fun _=>A1 12<|Xy [] r (Ix ke53 (Oc 0 r) H38 r)<|A1 13<|Xu [] r (Se R41 0 kk3 H38 r (Cp r) r)<|Az<|Bg () [0]
  refine Xy [] r (Ix ke53 (Oc 0 r) H40 r)<|A2 4 9 (?_)<|?_
  ·exact Xy [] r (Ix ke53 (Oc 0 r) H38 r)<|A2 5 9 (Xy [] r (Le kk3 (Oc 0 r) H38 r)<|A1 9<|Xy [] r (Le kk3 (Oc 0 r) H40 r)<|Aq [10] [] r<|A1 11<|Xe [] r (Cl [] zp H42 r r1) fun _=>A1 12<|Xy [] r (Ix ke53 (Oc 0 r) H38 r)<|A1 13<|Xu [] r (Se R41 0 kk3 H38 r (Cp r) r)<|Az<|Bg () [0])<|Xy [] r (Le kk3 (Oc 0 r) H40 r)<|A1 5<|Xy [] r (Le kk3 (Oc 0 r) H38 r)<|Aq [10] [] r<|A1 11<|Xe [] r (Cl [] zp H42 r r1) fun _=>A1 12<|Xy [] r (Ix ke53 (Oc 0 r) H38 r)<|A1 13<|Xu [] r (Se R41 0 kk3 H38 r (Cp r) r)<|Az<|Bg () [0]
  exact Xy [] r (Le kk3 (Oc 0 r) H40 r)<|A1 4<|Xy [] r (Ix ke53 (Oc 0 r) H38 r)<|A1 5<|Xy [] r (Le kk3 (Oc 0 r) H38 r)<|Aq [10] [] r<|A1 11<|Xe [] r (Cl [] zp H42 r r1) fun _=>A1 12<|Xy [] r (Ix ke53 (Oc 0 r) H38 r)<|A1 13<|Xu [] r (Se R41 0 kk3 H38 r (Cp r) r)<|Az<|Bg () [0]
 refine Ne<|Sq<|Wi fun E46 H47=>Wi fun E48 H49=>Wi fun R50 H51=>Jw Unit [0,2,3,4] [] (fun _=>[]) (fun _=>[.own U0 (lc ((((((s.set a.toNat R5).set d.toNat R14).set c.toNat R23).set b.toNat R32).set a.toNat R41).set d.toNat R50))]) r1 r1 (?_) fun X54=>?_
 ·refine Dr [] r hMix<|Aq [0,1,2,3,6,7] [] r<|A2 4 8 (?_)<|?_
  ·refine Xy [] r (Ix ke53 (Oc 0 r) H47 r)<|A2 5 8 (?_)<|?_
   ·exact Xy [] r (Le kk3 (Oc 0 r) H47 r)<|A1 8<|Xy [] r (Ix ke53 (Oc 0 r) H49 r)<|A1 9<|Xy [] r (Le kk3 (Oc 0 r) H49 r)<|Aq [10] [] r<|A1 11<|Xe [] r (Cl [] zr H51 r r1) fun _=>A1 12<|Xy [] r (Ix ke53 (Oc 0 r) H47 r)<|A1 13<|Xu [] r (Se R50 0 kk3 H47 r (Cp r) r)<|Az<|Bg () [0]
   exact Xy [] r (Ix ke53 (Oc 0 r) H49 r)<|A2 5 9 (Xy [] r (Le kk3 (Oc 0 r) H47 r)<|A1 9<|Xy [] r (Le kk3 (Oc 0 r) H49 r)<|Aq [10] [] r<|A1 11<|Xe [] r (Cl [] zr H51 r r1) fun _=>A1 12<|Xy [] r (Ix ke53 (Oc 0 r) H47 r)<|A1 13<|Xu [] r (Se R50 0 kk3 H47 r (Cp r) r)<|Az<|Bg () [0])<|Xy [] r (Le kk3 (Oc 0 r) H49 r)<|A1 5<|Xy [] r (Le kk3 (Oc 0 r) H47 r)<|Aq [10] [] r<|A1 11<|Xe [] r (Cl [] zr H51 r r1) fun _=>A1 12<|Xy [] r (Ix ke53 (Oc 0 r) H47 r)<|A1 13<|Xu [] r (Se R50 0 kk3 H47 r (Cp r) r)<|Az<|Bg () [0]
  refine Xy [] r (Ix ke53 (Oc 0 r) H49 r)<|A2 4 9 (?_)<|?_
  ·exact Xy [] r (Ix ke53 (Oc 0 r) H47 r)<|A2 5 9 (Xy [] r (Le kk3 (Oc 0 r) H47 r)<|A1 9<|Xy [] r (Le kk3 (Oc 0 r) H49 r)<|Aq [10] [] r<|A1 11<|Xe [] r (Cl [] zr H51 r r1) fun _=>A1 12<|Xy [] r (Ix ke53 (Oc 0 r) H47 r)<|A1 13<|Xu [] r (Se R50 0 kk3 H47 r (Cp r) r)<|Az<|Bg () [0])<|Xy [] r (Le kk3 (Oc 0 r) H49 r)<|A1 5<|Xy [] r (Le kk3 (Oc 0 r) H47 r)<|Aq [10] [] r<|A1 11<|Xe [] r (Cl [] zr H51 r r1) fun _=>A1 12<|Xy [] r (Ix ke53 (Oc 0 r) H47 r)<|A1 13<|Xu [] r (Se R50 0 kk3 H47 r (Cp r) r)<|Az<|Bg () [0]
  exact Xy [] r (Le kk3 (Oc 0 r) H49 r)<|A1 4<|Xy [] r (Ix ke53 (Oc 0 r) H47 r)<|A1 5<|Xy [] r (Le kk3 (Oc 0 r) H47 r)<|Aq [10] [] r<|A1 11<|Xe [] r (Cl [] zr H51 r r1) fun _=>A1 12<|Xy [] r (Ix ke53 (Oc 0 r) H47 r)<|A1 13<|Xu [] r (Se R50 0 kk3 H47 r (Cp r) r)<|Az<|Bg () [0]
 refine Ne<|Sq<|Wi fun E55 H56=>Wi fun E57 H58=>Wi fun R59 H60=>Jw Unit [0,2,3] [] (fun _=>[]) (fun _=>[.own U0 (lc (((((((s.set a.toNat R5).set d.toNat R14).set c.toNat R23).set b.toNat R32).set a.toNat R41).set d.toNat R50).set c.toNat R59))]) r1 r1 (?_) fun X63=>?_
 ·refine Dr [] r hMix<|Aq [0,1,2,3,6,7] [] r<|A2 4 8 (?_)<|?_
  ·refine Xy [] r (Ix ke53 (Oc 0 r) H56 r)<|A2 5 8 (?_)<|?_
   ·exact Xy [] r (Le kk3 (Oc 0 r) H56 r)<|A1 8<|Xy [] r (Ix ke53 (Oc 0 r) H58 r)<|A1 9<|Xy [] r (Le kk3 (Oc 0 r) H58 r)<|Aq [10] [] r<|A1 11<|Xe [] r (Cl [] zp H60 r r1) fun _=>A1 12<|Xy [] r (Ix ke53 (Oc 0 r) H56 r)<|A1 13<|Xu [] r (Se R59 0 kk3 H56 r (Cp r) r)<|Az<|Bg () [0]
   exact Xy [] r (Ix ke53 (Oc 0 r) H58 r)<|A2 5 9 (Xy [] r (Le kk3 (Oc 0 r) H56 r)<|A1 9<|Xy [] r (Le kk3 (Oc 0 r) H58 r)<|Aq [10] [] r<|A1 11<|Xe [] r (Cl [] zp H60 r r1) fun _=>A1 12<|Xy [] r (Ix ke53 (Oc 0 r) H56 r)<|A1 13<|Xu [] r (Se R59 0 kk3 H56 r (Cp r) r)<|Az<|Bg () [0])<|Xy [] r (Le kk3 (Oc 0 r) H58 r)<|A1 5<|Xy [] r (Le kk3 (Oc 0 r) H56 r)<|Aq [10] [] r<|A1 11<|Xe [] r (Cl [] zp H60 r r1) fun _=>A1 12<|Xy [] r (Ix ke53 (Oc 0 r) H56 r)<|A1 13<|Xu [] r (Se R59 0 kk3 H56 r (Cp r) r)<|Az<|Bg () [0]
  refine Xy [] r (Ix ke53 (Oc 0 r) H58 r)<|A2 4 9 (?_)<|?_
  ·exact Xy [] r (Ix ke53 (Oc 0 r) H56 r)<|A2 5 9 (Xy [] r (Le kk3 (Oc 0 r) H56 r)<|A1 9<|Xy [] r (Le kk3 (Oc 0 r) H58 r)<|Aq [10] [] r<|A1 11<|Xe [] r (Cl [] zp H60 r r1) fun _=>A1 12<|Xy [] r (Ix ke53 (Oc 0 r) H56 r)<|A1 13<|Xu [] r (Se R59 0 kk3 H56 r (Cp r) r)<|Az<|Bg () [0])<|Xy [] r (Le kk3 (Oc 0 r) H58 r)<|A1 5<|Xy [] r (Le kk3 (Oc 0 r) H56 r)<|Aq [10] [] r<|A1 11<|Xe [] r (Cl [] zp H60 r r1) fun _=>A1 12<|Xy [] r (Ix ke53 (Oc 0 r) H56 r)<|A1 13<|Xu [] r (Se R59 0 kk3 H56 r (Cp r) r)<|Az<|Bg () [0]
  exact Xy [] r (Le kk3 (Oc 0 r) H58 r)<|A1 4<|Xy [] r (Ix ke53 (Oc 0 r) H56 r)<|A1 5<|Xy [] r (Le kk3 (Oc 0 r) H56 r)<|Aq [10] [] r<|A1 11<|Xe [] r (Cl [] zp H60 r r1) fun _=>A1 12<|Xy [] r (Ix ke53 (Oc 0 r) H56 r)<|A1 13<|Xu [] r (Se R59 0 kk3 H56 r (Cp r) r)<|Az<|Bg () [0]
 refine Ne<|Sq<|Wi fun E64 H65=>Wi fun E66 H67=>Wi fun R68 H69=>Jw Unit [0] [] (fun _=>[]) (fun _=>[.own U0 (lc ((((((((s.set a.toNat R5).set d.toNat R14).set c.toNat R23).set b.toNat R32).set a.toNat R41).set d.toNat R50).set c.toNat R59).set b.toNat R68))]) r1 r1 (?_) fun X72=>?_
 ·refine Dr [] r hMix<|Aq [0,1,2,3,6,7] [] r<|A2 4 8 (?_)<|?_
  ·refine Xy [] r (Ix ke53 (Oc 0 r) H65 r)<|A2 5 8 (?_)<|?_
   ·exact Xy [] r (Le kk3 (Oc 0 r) H65 r)<|A1 8<|Xy [] r (Ix ke53 (Oc 0 r) H67 r)<|A1 9<|Xy [] r (Le kk3 (Oc 0 r) H67 r)<|Aq [10] [] r<|A1 11<|Xe [] r (Cl [] zr H69 r r1) fun _=>A1 12<|Xy [] r (Ix ke53 (Oc 0 r) H65 r)<|A1 13<|Xu [] r (Se R68 0 kk3 H65 r (Cp r) r)<|Az<|Bg () [0]
   exact Xy [] r (Ix ke53 (Oc 0 r) H67 r)<|A2 5 9 (Xy [] r (Le kk3 (Oc 0 r) H65 r)<|A1 9<|Xy [] r (Le kk3 (Oc 0 r) H67 r)<|Aq [10] [] r<|A1 11<|Xe [] r (Cl [] zr H69 r r1) fun _=>A1 12<|Xy [] r (Ix ke53 (Oc 0 r) H65 r)<|A1 13<|Xu [] r (Se R68 0 kk3 H65 r (Cp r) r)<|Az<|Bg () [0])<|Xy [] r (Le kk3 (Oc 0 r) H67 r)<|A1 5<|Xy [] r (Le kk3 (Oc 0 r) H65 r)<|Aq [10] [] r<|A1 11<|Xe [] r (Cl [] zr H69 r r1) fun _=>A1 12<|Xy [] r (Ix ke53 (Oc 0 r) H65 r)<|A1 13<|Xu [] r (Se R68 0 kk3 H65 r (Cp r) r)<|Az<|Bg () [0]
  refine Xy [] r (Ix ke53 (Oc 0 r) H67 r)<|A2 4 9 (?_)<|?_
  ·exact Xy [] r (Ix ke53 (Oc 0 r) H65 r)<|A2 5 9 (Xy [] r (Le kk3 (Oc 0 r) H65 r)<|A1 9<|Xy [] r (Le kk3 (Oc 0 r) H67 r)<|Aq [10] [] r<|A1 11<|Xe [] r (Cl [] zr H69 r r1) fun _=>A1 12<|Xy [] r (Ix ke53 (Oc 0 r) H65 r)<|A1 13<|Xu [] r (Se R68 0 kk3 H65 r (Cp r) r)<|Az<|Bg () [0])<|Xy [] r (Le kk3 (Oc 0 r) H67 r)<|A1 5<|Xy [] r (Le kk3 (Oc 0 r) H65 r)<|Aq [10] [] r<|A1 11<|Xe [] r (Cl [] zr H69 r r1) fun _=>A1 12<|Xy [] r (Ix ke53 (Oc 0 r) H65 r)<|A1 13<|Xu [] r (Se R68 0 kk3 H65 r (Cp r) r)<|Az<|Bg () [0]
  exact Xy [] r (Le kk3 (Oc 0 r) H67 r)<|A1 4<|Xy [] r (Ix ke53 (Oc 0 r) H65 r)<|A1 5<|Xy [] r (Le kk3 (Oc 0 r) H65 r)<|Aq [10] [] r<|A1 11<|Xe [] r (Cl [] zr H69 r r1) fun _=>A1 12<|Xy [] r (Ix ke53 (Oc 0 r) H65 r)<|A1 13<|Xu [] r (Se R68 0 kk3 H65 r (Cp r) r)<|Az<|Bg () [0]
 exact Ne<|Sr<|Qs 2 r<|Nx<|Wr<|Re U0 [0]
noncomputable def zgi (key:List UInt8) (counter:Int) (nonce:List UInt8):Option (List UInt8):=
 bindC (loopO (fun (S2:Int × List Int)=>if decide (S2.1<8) then ((zM key (IntKind.i64.wrap ((4:Int)*S2.1))).bind fun R7=>
 (app 8 S2.2 ([R7])).bind fun E12=>
 some (.go (IntKind.i64.wrap (S2.1+1),E12)))
 else (some (.done (.go S2.2))))
 ((0:Int),([(1634760805:Int),(857760878:Int),(2036477234:Int),(1797285236:Int)])))
 (fun (T4:List Int)=>(zM nonce 0).bind fun R14=>
 (zM nonce 4).bind fun R17=>
 (zM nonce 8).bind fun R20=>
 (app 8 T4 ([counter,R14,R17,R20])).bind fun E25=>
 (app 8 ([]:List Int) E25).bind fun E29=>
 bindC (loopO (fun (S31:Int × List Int)=>if decide (S31.1<10) then ((zj S31.2 0 4 (8:Int) (12:Int)).bind fun R36=>
 (zj R36 1 5 (9:Int) (13:Int)).bind fun R39=>
 (zj R39 2 6 (10:Int) (14:Int)).bind fun R42=>
 (zj R42 3 7 (11:Int) (15:Int)).bind fun R45=>
 (zj R45 0 5 (10:Int) (15:Int)).bind fun R48=>
 (zj R48 1 6 (11:Int) (12:Int)).bind fun R51=>
 (zj R51 2 7 (8:Int) (13:Int)).bind fun R54=>
 (zj R54 3 4 (9:Int) (14:Int)).bind fun R57=>
 some (.go (IntKind.i64.wrap (S31.1+1),R57)))
 else (some (.done (.go S31.2))))
 ((0:Int),E29))
 (fun (T33:List Int)=>bindC (loopO (fun (S61:Int × List UInt8)=>if decide (S61.1<16) then ((idx T33 S61.1).bind fun E66=>
 (idx E25 S61.1).bind fun E68=>
 (zbO (IntKind.i64.wrap (E66+E68))).bind fun R70=>
 (app 1 S61.2 ([toU8 (iand .i64 R70 255),toU8 (iand .i64 (ishr .i64 R70 8) 255),toU8 (iand .i64 (ishr .i64 R70 16) 255),toU8 (ishr .i64 R70 24)])).bind fun E75=>
 some (.go (IntKind.i64.wrap (S61.1+1),E75)))
 else (some (.done (.go S61.2))))
 ((0:Int),([]:List UInt8)))
 (fun (T63:List UInt8)=>some T63)))
theorem zm5 {key:List UInt8} {counter:Int} {nonce:List UInt8} :Cn Tryz.prog 112 [strV key,iv counter,strV nonce] [] [] (zgi key counter nonce) (fun r (_:Unit)=>strV r) fun _ _=>[]:=by
 unfold zgi
 refine Ci Tryz.func112 r r ?_
 rintro w S -
 refine Sr<|Qs 1 r<|Nx<|Sr<|Fo (Bs [(1634760805:Int),(857760878:Int),(2036477234:Int),(1797285236:Int)] ke53 kz3) fun B1=>Qs 1 r<|Nx<|Sq<|Sr<|Qs 1 r<|Nx<|Jn Value [1,2] [] (fun _ X=>[(7,X)]) (fun T X=>[.own X (lc T)]) r2 r2 (?_) fun T4 X5=>?_
 ·exact Wb<|Lp Value [0,1,2] [] (fun T X=>[(7,X),(8,iv T.1)]) (fun T X=>[.own X (lc T.2)]) (.slice (some ⟨B1,0,none⟩) 4 4) [0] r2 r2 fun S2 X3=>Sq<|Sr<|Qs 2 r<|Nx<|Wc r (fun H6=>Sn<|Sq<|Wb<|Rg<|Qs 4 r<|Bi fun R7 H8=>Fo (Cl [] zeG H8 r r1) fun _=>Fo (Bs [R7] ke53 kz3) fun B10=>Bi fun E12 H13=>Fo (Ap [1] H13 ke53 kz3 r (Oc 0 r)) fun V11=>Qs 1 r<|Nl<|Bn<|Ne<|Rg<|Qs 3 r<|Nl<|Lg V11 [0]) fun H6=>Wx<|Tx<|Ex<|Be<|Jg X3 [0]
 refine Ne<|Sr<|Qs 3 r<|Bi fun R14 H15=>Fo (Cl [] zeG H15 r r1) fun _=>Qs 1 r<|Bi fun R17 H18=>Fo (Cl [] zeG H18 r r1) fun _=>Qs 1 r<|Bi fun R20 H21=>Fo (Cl [] zeG H21 r r1) fun _=>Fo (Bs [counter,R14,R17,R20] ke53 kz3) fun B23=>Bi fun E25 H26=>Fo (Ap [1] H26 ke53 kz3 r (Oc 0 r)) fun V24=>Qs 1 r<|Nx<|Sr<|Fo (Bs ([]:List Int) ke53 kz3) fun B27=>Qs 1 r<|Bi fun E29 H30=>Fo (Ap [0] H30 ke53 kz3 r (Oc 1 r)) fun V28=>Qs 1 r<|Nx<|Sq<|Sr<|Qs 1 r<|Nx<|Jn Value [7] [1] (fun _ X=>[(9,X)]) (fun T X=>[.own X (lc T)]) r2 r2 (?_) fun T33 X34=>?_
 ·refine Wb<|Lp Value [7] [1] (fun T X=>[(9,X),(10,iv T.1)]) (fun T X=>[.own X (lc T.2)]) V28 [1,0] r2 r2 fun S31 X32=>Sq<|Sr<|Qs 2 r<|Nx<|Wc r (fun H35=>?_) fun H35=>?_
  ·refine Sn<|Sq<|Wb<|Sr<|Qs 1 r<|Bi fun R36 H37=>Fo (Cl [1] zbK H37 r r1) fun Y38=>Qs 1 r<|Nx<|Sr<|Qs 1 r<|Bi fun R39 H40=>Fo (Cl [0] zbK H40 r r1) fun Y41=>Qs 1 r<|Nx<|Sr<|Qs 1 r<|Bi fun R42 H43=>Fo (Cl [0] zbK H43 r r1) fun Y44=>Qs 1 r<|Nx<|Sr<|Qs 1 r<|Bi fun R45 H46=>Fo (Cl [0] zbK H46 r r1) fun Y47=>Qs 1 r<|Nx<|Sr<|Qs 1 r<|Bi fun R48 H49=>Fo (Cl [0] zbK H49 r r1) fun Y50=>Qs 1 r<|Nx<|Sr<|Qs 1 r<|Bi fun R51 H52=>Fo (Cl [0] zbK H52 r r1) fun Y53=>?_
   exact Qs 1 r<|Nx<|Sr<|Qs 1 r<|Bi fun R54 H55=>Fo (Cl [0] zbK H55 r r1) fun Y56=>Qs 1 r<|Nx<|Rg<|Qs 1 r<|Bi fun R57 H58=>Fo (Cl [0] zbK H58 r r1) fun Y59=>Qs 1 r<|Nl<|Bn<|Ne<|Rg<|Qs 3 r<|Nl<|Lg Y59 [1,0]
  exact Wx<|Tx<|Ex<|Be<|Jg X32 [0,0]
 refine Ne<|Sr<|Fo (Bs ([]:List UInt8) ke22 kz5) fun B60=>Qs 1 r<|Nx<|Sq<|Sr<|Qs 1 r<|Nx<|Jn Value [] [] (fun _ X=>[(11,X)]) (fun T X=>[.own X (lc T)]) r2 r2 (?_) fun T63 X64=>?_
 ·refine Wb<|Lp Value [7,9] [1,1] (fun T X=>[(11,X),(12,iv T.1)]) (fun T X=>[.own X (lc T.2)]) (.slice (some ⟨B60,0,none⟩) 0 0) [1,1,0] r2 r2 fun S61 X62=>Sq<|Sr<|Qs 2 r<|Nx<|Wc r (fun H65=>?_) fun H65=>?_
  ·refine Sn<|Sq<|Wb<|Sq<|Dr [0,0,0] r hMix<|Aq [0,1] [0,0,0] r<|Ai fun E66 H67=>Ay 2 [0,0,0] r (Ix ke53 (Oc 1 r) H67 r)<|Ay 3 [0,0,0] r (Le kk3 (Oc 1 r) H67 r)<|Aq [4,5] [0,0,0] r<|Ai fun E68 H69=>Ay 6 [0,0,0] r (Ix ke53 (Oc 0 r) H69 r)<|Ay 7 [0,0,0] r (Le kk3 (Oc 0 r) H69 r)<|Aq [8] [0,0,0] r<|Ai fun R70 H71=>A1 9<|Xe [0,0,0] r (Cl [] zp H71 r r1) fun _=>Aq [10] [0,0,0] r<|Az<|Ne<|Rg<|Qs 3 r<|Yo (Y.conv8 ki3 ki5 r)<|Qs 1 r<|Yo (Y.shr (by decide) r r)<|Qs 1 r<|Yo (Y.conv8 ki3 ki5 r)<|Qs 1 r<|Yo (Y.shr (by decide) r r)<|Qs 1 r<|Yo (Y.conv8 ki3 ki5 r)<|Qs 1 r<|Yo (Y.shr (by decide) r r)<|Yo (Y.conv8 ki3 ki5 r)<|Fo (Bs [toU8 (iand .i64 R70 255),toU8 (iand .i64 (ishr .i64 R70 8) 255),toU8 (iand .i64 (ishr .i64 R70 16) 255),toU8 (ishr .i64 R70 24)] ke22 kz5) fun B73=>?_
   exact Bi fun E75 H76=>Fo (Ap [3] H76 ke22 kz5 r (Oc 0 r)) fun V74=>Qs 1 r<|Nl<|Bn<|Ne<|Rg<|Qs 3 r<|Nl<|Lg V74 [2,2,0]
  exact Wx<|Tx<|Ex<|Be<|Jg X62 [2]
 exact Ne<|Sr<|Qs 1 r<|Yo (Y.toStr ke22 ki5 ks9 (Oc 0 r) r)<|Qs 1 r<|Nx<|Wr<|Re () []
noncomputable def zer (key:List UInt8) (counter:Int) (nonce:List UInt8):Option (List UInt8):=
 (if !(decide ((key.length:Int)=32)) then (some true)
 else (if !(decide ((nonce.length:Int)=12)) then (some true)
 else ((zbd counter 0 4294967295).bind fun R5=>
 some (!R5)))).bind (fun (T1:Bool)=>
 if T1=true then (some ([]))
 else ((zgi key counter nonce).bind fun R9=>
 some R9))
theorem zmi {key:List UInt8} {counter:Int} {nonce:List UInt8} :Cn Tryz.prog 70 [strV key,iv counter,strV nonce] [] [] (zer key counter nonce) (fun r (_:Unit)=>strV r) fun _ _=>[]:=by
 unfold zer
 refine Ci Tryz.func70 r r ?_
 rintro w S -
 refine Sr<|Qs 1 r<|Nx<|Sq<|Sq<|Jv [0,1,2] (fun T=>[(19,.bool T)]) r1 (?_) fun T1=>?_
 ·exact Rg<|Qs 1 r<|Yo (Y.slen ks9 r)<|Qs 2 r<|It (fun H3=>Of 3 (zl H3) r r<|Yo (Pt H3 r)<|Qs 1 r<|Of 3 r r r<|Yo (Pt r r)<|Nl<|Bg () []) fun H3=>Qg 1 (za H3) r r<|Yg (gdA (za H3)) (Y.slen ks9 r)<|Qg 1 (za H3) r r<|Yo (Pf H3 r)<|Qs 1 r<|It (fun H4=>Of 3 (zl H4) r r<|Yo (Pt H4 r)<|Nl<|Bg () []) fun H4=>Qg 1 (za H4) r r<|Bi fun R5 H6=>Fg (gdA (za H4)) (Cl [] zc3 H6 r r1) fun _=>Qg 1 (za H4) r r<|Yo (Pf H4 r)<|Nl<|Bg () []
 exact Ne<|Wc r (fun H8=>Sr<|Qs 1 r<|Nx<|Wr<|Tr<|Re () []) fun H8=>Sn<|Sr<|Qs 3 r<|Bi fun R9 H10=>Fo (Cl [] zm5 H10 r r1) fun _=>Qs 1 r<|Nx<|Wr<|Re () []
noncomputable def zdd (secret:List UInt8) (tenant:Int) (epoch:Int):Option (List UInt8):=
 (if !(decide ((secret.length:Int)=32)) then (some true)
 else ((zbd tenant 1 99).bind fun R4=>
 if !R4 then (some true)
 else ((zbd epoch 0 1000000).bind fun R8=>
 some (!R8)))).bind (fun (T1:Bool)=>
 if T1=true then (some ([]))
 else ((zeZ tenant).bind fun R12=>
 (zeZ epoch).bind fun R15=>
 (cat R12 R15).bind fun E18=>
 (zeY 2 tenant).bind fun R20=>
 (zer secret epoch R20).bind fun R23=>
 (ssub R23 0 8).bind fun E26=>
 (cat E18 E26).bind fun E28=>
 some E28))
theorem zhI {secret:List UInt8} {tenant:Int} {epoch:Int} :Cn Tryz.prog 40 [strV secret,iv tenant,iv epoch] [] [] (zdd secret tenant epoch) (fun r (_:Unit)=>strV r) fun _ _=>[]:=by
 unfold zdd
 refine Ci Tryz.func40 r r ?_
 rintro w S -
 refine Sr<|Qs 1 r<|Nx<|Sq<|Sq<|Jv [0,1,2] (fun T=>[(19,.bool T)]) r1 (?_) fun T1=>?_
 ·exact Rg<|Qs 1 r<|Yo (Y.slen ks9 r)<|Qs 2 r<|It (fun H3=>Of 3 (zl H3) r r<|Yo (Pt H3 r)<|Qs 1 r<|Of 3 r r r<|Yo (Pt r r)<|Nl<|Bg () []) fun H3=>Qg 1 (za H3) r r<|Bi fun R4 H5=>Fg (gdA (za H3)) (Cl [] zc3 H5 r r1) fun _=>Qg 1 (za H3) r r<|Yo (Pf H3 r)<|Qs 1 r<|It (fun H7=>Of 3 (zl H7) r r<|Yo (Pt H7 r)<|Nl<|Bg () []) fun H7=>Qg 1 (za H7) r r<|Bi fun R8 H9=>Fg (gdA (za H7)) (Cl [] zc3 H9 r r1) fun _=>Qg 1 (za H7) r r<|Yo (Pf H7 r)<|Nl<|Bg () []
 exact Ne<|Wc r (fun H11=>Sr<|Qs 1 r<|Nx<|Wr<|Tr<|Re () []) fun H11=>Sn<|Sr<|Qs 1 r<|Bi fun R12 H13=>Fo (Cl [] zjp H13 r r1) fun _=>Qs 1 r<|Bi fun R15 H16=>Fo (Cl [] zjp H16 r r1) fun _=>Bi fun E18 H19=>Yo (Y.cat H19 r r)<|Qs 3 r<|Bi fun R20 H21=>Fo (Cl [] zm0 H21 r r1) fun _=>Bi fun R23 H24=>Fo (Cl [] zmi H24 r r1) fun _=>Bi fun E26 H27=>Yo (Y.ssub_to H27 ks9 r r)<|Bi fun E28 H29=>Yo (Y.cat H29 r r)<|Qs 1 r<|Nx<|Wr<|Re () []
noncomputable def zb2 (c:L1Cur) (list:List (List UInt8)):Option (List UInt8 × L1Cur):=
 (zx c (list.length:Int)).bind fun R1=>
 (idx list R1.1).bind fun E4=>
 some (E4,(⟨c.b,R1.2.i,R1.2.h⟩:L1Cur))
theorem zcN {c:L1Cur} {list:List (List UInt8)} {U0 U2:Value} {U1:Nat} :Cn Tryz.prog 41 [pt U1,U2] [.box U1 66 [U0,iv c.i,iv c.h]] [(U0,lc c.b),(U2,lc list)] (zb2 c list) (fun r (_:Unit)=>strV r.1) fun r _=>[.box U1 66 [U0,iv r.2.i,iv r.2.h]]:=by
 unfold zb2
 refine Ci Tryz.func41 r r ?_
 rintro w S ⟨Z0,Z1,-⟩
 exact Sr<|Qs 1 r<|Nx<|Sr<|Qs 3 r<|Yo (Ln ke82 (Bc Z1) r)<|Bi fun R1 H2=>Fo (Cl [0] zA H2 r r1 ⟨(Bc Z0),⟨⟩⟩) fun _=>Bi fun E4 H5=>Yo (Ix ke82 (Bc Z1) H5 r)<|Yo (Le kk9 (Bc Z1) H5 r)<|Qs 1 r<|Nx<|Wr<|Re () [0]
noncomputable def zgk (c:L1Cur):Option (List UInt8 × L1Cur):=
 (zb2 c ([[97],[98],[97,98],[97,98,99],[98,48],[99],[0],[122,122]])).bind fun R2=>
 some (R2.1,(⟨c.b,R2.2.i,R2.2.h⟩:L1Cur))
theorem zoT {c:L1Cur} {U0:Value} {U1:Nat} :Cn Tryz.prog 114 [pt U1] [.box U1 66 [U0,iv c.i,iv c.h]] [(U0,lc c.b)] (zgk c) (fun r (_:Unit)=>strV r.1) fun r _=>[.box U1 66 [U0,iv r.2.i,iv r.2.h]]:=by
 unfold zgk
 refine Ci Tryz.func114 r r ?_
 rintro w S ⟨Z0,-⟩
 exact Sr<|Qs 1 r<|Nx<|Sr<|Qs 1 r<|Fo (Bs [[97],[98],[97,98],[97,98,99],[98,48],[99],[0],[122,122]] ke82 kz9) fun B1=>Bi fun R2 H3=>Fo (Cl [1] zcN H3 r r1 ⟨(Bc Z0),(Oc 0 r),⟨⟩⟩) fun _=>Qs 1 r<|Nx<|Wr<|Re () [0]
noncomputable def zc4 (c:L1Cur) (most:Int):Option (List UInt8 × L1Cur):=
 (zx c 4).bind fun R2=>
 (zx (⟨c.b,R2.2.i,R2.2.h⟩:L1Cur) (IntKind.i64.wrap (most+1))).bind fun R5=>
 bindC (loopO (fun (S8:Int × Int × Int × List UInt8)=>if decide (S8.2.2.1>0) then ((zbr (⟨c.b,S8.1,S8.2.1⟩:L1Cur)).bind fun R13=>
 bindC (if decide (R2.1=1) then (some (.go (Int.tmod R13.1 2)))
 else (some (.go R13.1)))
 (fun (T16:Int)=>bindC (if decide (R2.1=2) then (some (.go (IntKind.i64.wrap ((97:Int)+(Int.tmod T16 4)))))
 else (some (.go T16)))
 (fun (T19:Int)=>(app 1 S8.2.2.2 ([toU8 T19])).bind fun E24=>
 some (.go (R13.2.i,R13.2.h,IntKind.i64.wrap (S8.2.2.1 - 1),E24)))))
 else (some (.done (.go (S8.1,S8.2.1,S8.2.2.2)))))
 (R5.2.i,R5.2.h,R5.1,([]:List UInt8)))
 (fun (T10:Int × Int × List UInt8)=>some (T10.2.2,(⟨c.b,T10.1,T10.2.1⟩:L1Cur)))
theorem zfB {c:L1Cur} {most:Int} {U0:Value} {U1:Nat} :Cn Tryz.prog 73 [pt U1,iv most] [.box U1 66 [U0,iv c.i,iv c.h]] [(U0,lc c.b)] (zc4 c most) (fun r (_:Unit)=>strV r.1) fun r _=>[.box U1 66 [U0,iv r.2.i,iv r.2.h]]:=by
 unfold zc4
 refine Ci Tryz.func73 r r ?_
 rintro w S ⟨Z0,-⟩
 refine Sr<|Qs 1 r<|Nx<|Sr<|Fo (Bs ([]:List UInt8) ke22 kz5) fun B1=>Qs 1 r<|Nx<|Sr<|Qs 1 r<|Bi fun R2 H3=>Fo (Cl [1] zA H3 r r1 ⟨(Bc Z0),⟨⟩⟩) fun _=>Qs 1 r<|Nx<|Sq<|Sr<|Qs 3 r<|Bi fun R5 H6=>Fo (Cl [0] zA H6 r r1 ⟨(Bc Z0),⟨⟩⟩) fun _=>Qs 1 r<|Nx<|Jn Value [] [] (fun _ X=>[(5,X)]) (fun T X=>[.box U1 66 [U0,iv T.1,iv T.2.1],.own X (lc T.2.2)]) r2 r2 (?_) fun T10 X11=>?_
 ·refine Wb<|Lp Value [0,6] [] (fun T X=>[(5,X),(7,iv T.2.2.1)]) (fun T X=>[.box U1 66 [U0,iv T.1,iv T.2.1],.own X (lc T.2.2.2)]) (.slice (some ⟨B1,0,none⟩) 0 0) [0,0] r2 r2 fun S8 X9=>Sq<|Sr<|Qs 2 r<|Nx<|Wc r (fun H12=>?_) fun H12=>?_
  ·refine Sn<|Sq<|Wb<|Sr<|Qs 1 r<|Bi fun R13 H14=>Fo (Cl [0] zch H14 r r1 ⟨(Bc Z0),⟨⟩⟩) fun _=>Qs 1 r<|Nx<|Sq<|Sr<|Qs 2 r<|Nx<|Ju [0,5,6,7] (fun T=>[(8,iv T)]) r1 (Wc r (fun H18=>Rg<|Qs 1 r<|Yo (Y.rem (by decide) r r)<|Qs 1 r<|Nl<|Jg () [0,0]) fun H18=>Sk<|Jg () [0,0]) fun T16=>Ne<|Sq<|Sr<|Qs 2 r<|Nx<|Ju [0,5,6,7] (fun T=>[(8,iv T)]) r1 (Wc r (fun H21=>Rg<|Qs 1 r<|Yo (Y.rem (by decide) r r)<|Qs 2 r<|Nl<|Jg () [0,0]) fun H21=>Sk<|Jg () [0,0]) fun T19=>Ne<|Rg<|Qs 2 r<|Yo (Y.conv8 ki3 ki5 r)<|Fo (Bs [toU8 T19] ke22 kz5) fun B22=>?_
   exact Bi fun E24 H25=>Fo (Ap [2] H25 ke22 kz5 r (Oc 0 r)) fun V23=>Qs 1 r<|Nl<|Bn<|Ne<|Rg<|Qs 3 r<|Nl<|Lg V23 [2,0]
  exact Wx<|Tx<|Ex<|Be<|Jg X9 [0,0]
 exact Ne<|Sr<|Qs 1 r<|Yo (Y.toStr ke22 ki5 ks9 (Oc 1 r) r)<|Qs 1 r<|Nx<|Wr<|Re () [0]
noncomputable def ze2 (c:L1Cur):Option (List Op × L1Cur):=
 (zx c 4).bind fun R2=>
 bindC (loopO (fun (S5:Int × Int × Int × List Op)=>if decide (S5.2.2.1>0) then ((zgk (⟨c.b,S5.1,S5.2.1⟩:L1Cur)).bind fun R10=>
 (z9 (⟨c.b,R10.2.i,R10.2.h⟩:L1Cur) (3:Int)).bind fun R14=>
 bindC (if R14.1=true then (some (.go (R14.2.i,R14.2.h,true,[])))
 else ((zc4 (⟨c.b,R14.2.i,R14.2.h⟩:L1Cur) (5:Int)).bind fun R20=>
 some (.go (R20.2.i,R20.2.h,false,R20.1))))
 (fun (T17:Int × Int × Bool × List UInt8)=>(app 40 S5.2.2.2 ([(⟨R10.1,T17.2.2.1,T17.2.2.2⟩:Op)])).bind fun E25=>
 some (.go (T17.1,T17.2.1,IntKind.i64.wrap (S5.2.2.1 - 1),E25))))
 else (some (.done (.go (S5.1,S5.2.1,S5.2.2.2)))))
 (R2.2.i,R2.2.h,IntKind.i64.wrap ((1:Int)+R2.1),([]:List Op)))
 (fun (T7:Int × Int × List Op)=>(z9 (⟨c.b,T7.1,T7.2.1⟩:L1Cur) (10:Int)).bind fun R27=>
 bindC (if R27.1=true then ((zx (⟨c.b,R27.2.i,R27.2.h⟩:L1Cur) (T7.2.2.length:Int)).bind fun R33=>
 (zx (⟨c.b,R33.2.i,R33.2.h⟩:L1Cur) (4:Int)).bind fun R36=>
 bindC (if decide (R36.1=0) then ((zb2 (⟨c.b,R36.2.i,R36.2.h⟩:L1Cur) ([[],[97,97,97,97,97,97,97,97,97,97],[97,97,97,97,97,97,97,97,97,97,97]])).bind fun R43=>
 (idx T7.2.2 R33.1).bind fun E46=>
 some (.go (R43.2.i,R43.2.h,(T7.2.2.set R33.1.toNat (⟨R43.1,E46.Del,E46.Val⟩:Op)))))
 else (bindC (if decide (R36.1=1) then ((zc4 (⟨c.b,R36.2.i,R36.2.h⟩:L1Cur) (1:Int)).bind fun R51=>
 (cat ([97,97,97,97,97,97,97,97,97,97,97,97,97,97,97,97]) R51.1).bind fun E54=>
 (idx T7.2.2 R33.1).bind fun E56=>
 some (.go (R51.2.i,R51.2.h,(T7.2.2.set R33.1.toNat (⟨E56.Key,E56.Del,E54⟩:Op)))))
 else (bindC (if decide (R36.1=2) then ((app 40 T7.2.2 T7.2.2).bind fun E62=>
 some (.go E62))
 else (some (.go ([]:List Op))))
 (fun (T58:List Op)=>some (.go (R36.2.i,R36.2.h,T58)))))
 (fun (T48:Int × Int × List Op)=>some (.go (T48.1,T48.2.1,T48.2.2)))))
 (fun (T39:Int × Int × List Op)=>some (.go (T39.1,T39.2.1,T39.2.2))))
 else (some (.go (R27.2.i,R27.2.h,T7.2.2))))
 (fun (T30:Int × Int × List Op)=>some (T30.2.2,(⟨c.b,T30.1,T30.2.1⟩:L1Cur))))
theorem zm7 {c:L1Cur} {U0:Value} {U1:Nat} :Cn Tryz.prog 72 [pt U1] [.box U1 66 [U0,iv c.i,iv c.h]] [(U0,lc c.b)] (ze2 c) (fun _ (X:Value)=>X) fun r X=>[.box U1 66 [U0,iv r.2.i,iv r.2.h],.own X (lc r.1)]:=by
 unfold ze2
 refine Ci Tryz.func72 r r ?_
 rintro w S ⟨Z0,-⟩
 refine Sr<|Qs 1 r<|Nx<|Sr<|Fo (Bs ([]:List Op) ke27 kz120) fun B1=>Qs 1 r<|Nx<|Sq<|Sr<|Qs 1 r<|Bi fun R2 H3=>Fo (Cl [1] zA H3 r r1 ⟨(Bc Z0),⟨⟩⟩) fun _=>Qs 2 r<|Nx<|Jn Value [0] [] (fun _ X=>[(3,X)]) (fun T X=>[.box U1 66 [U0,iv T.1,iv T.2.1],.own X (lc T.2.2)]) r2 r2 (?_) fun T7 X8=>?_
 ·refine Wb<|Lp Value [0] [] (fun T X=>[(3,X),(4,iv T.2.2.1)]) (fun T X=>[.box U1 66 [U0,iv T.1,iv T.2.1],.own X (lc T.2.2.2)]) (.slice (some ⟨B1,0,none⟩) 0 0) [0,0] r2 r2 fun S5 X6=>Sq<|Sr<|Qs 2 r<|Nx<|Wc r (fun H9=>?_) fun H9=>?_
  ·refine Sn<|Sq<|Wb<|Sr<|Qs 1 r<|Bi fun R10 H11=>Fo (Cl [0] zoT H11 r r1 ⟨(Bc Z0),⟨⟩⟩) fun _=>Yo (Bd kp120 kz120 (Pc r (Cp r)<|Pz) r)<|Fo (Al kz120 r) fun B13=>Fu (Sb 0 kk120 r (Cp r) r)<|Nx<|Sq<|Sr<|Qs 1 r<|Bi fun R14 H15=>Fo (Cl [1] zbe H15 r r1 ⟨(Bc Z0),⟨⟩⟩) fun _=>Nx<|Jn Unit [0,3,4,5] [2] (fun _ _=>[]) (fun T _=>[.box U1 66 [U0,iv T.1,iv T.2.1],.box B13 120 [strV R10.1,.bool T.2.2.1,strV T.2.2.2]]) r2 r2 (Wc r (fun H19=>Rg<|Yo (Fb zff r)<|Fu (Sb 1 kk4 r (Cp r) r)<|Nl<|Jg () [2,0,0]) fun H19=>Rg<|Qs 1 r<|Bi fun R20 H21=>Fo (Cl [0] zfB H21 r r1 ⟨(Bc Z0),⟨⟩⟩) fun _=>Yo (Fb zfg r)<|Fu (Sb 1 kk9 r (Cp r) r)<|Nl<|Jg () [2,0,0]) fun T17 X18=>?_
   exact Ne<|Rg<|Qs 1 r<|Yo (Lb 2 kk120 r)<|Fo (Bs [(⟨R10.1,T17.2.2.1,T17.2.2.2⟩:Op)] ke27 kz120) fun B23=>Bi fun E25 H26=>Fo (Ap [1] H26 ke27 kz120 r (Oc 0 r)) fun V24=>Qs 1 r<|Nl<|Bn<|Ne<|Rg<|Qs 3 r<|Nl<|Lg V24 [2,0]
  exact Wx<|Tx<|Ex<|Be<|Jg X6 [0,0]
 refine Ne<|Sq<|Sr<|Qs 1 r<|Bi fun R27 H28=>Fo (Cl [0] zbe H28 r r1 ⟨(Bc Z0),⟨⟩⟩) fun _=>Nx<|Jn Value [] [] (fun _ X=>[(3,X)]) (fun T X=>[.box U1 66 [U0,iv T.1,iv T.2.1],.own X (lc T.2.2)]) r2 r2 (?_) fun T30 X31=>?_
 ·refine Wc r (fun H32=>?_) fun H32=>?_
  ·refine Sr<|Qs 2 r<|Yo (Ln ke27 (Oc 1 r) r)<|Bi fun R33 H34=>Fo (Cl [0] zA H34 r r1 ⟨(Bc Z0),⟨⟩⟩) fun _=>Qs 1 r<|Nx<|Sr<|Qs 1 r<|Bi fun R36 H37=>Fo (Cl [0] zA H37 r r1 ⟨(Bc Z0),⟨⟩⟩) fun _=>Nx<|Wb<|Sr<|Qs 2 r<|Nx<|Jn Value [] [] (fun _ X=>[(3,X)]) (fun T X=>[.box U1 66 [U0,iv T.1,iv T.2.1],.own X (lc T.2.2)]) r2 r2 (?_) fun T39 X40=>?_
   ·refine Wc r (fun H41=>?_) fun H41=>?_
    ·exact Rg<|Qs 3 r<|Fo (Bs [[],[97,97,97,97,97,97,97,97,97,97],[97,97,97,97,97,97,97,97,97,97,97]] ke82 kz9) fun B42=>Bi fun R43 H44=>Fo (Cl [1] zcN H44 r r1 ⟨(Bc Z0),(Oc 0 r),⟨⟩⟩) fun _=>Bi fun E46 H47=>Yo (Ix ke27 (Oc 2 r) H47 r)<|Yo (Fe zev (Oc 2 r) H47 r)<|Fu (Se (⟨R43.1,E46.Del,E46.Val⟩:Op) 2 kk9 H47 r (Cp r) r)<|Nl<|Jg X8 [0,1]
    refine Sr<|Qs 2 r<|Nx<|Jn Value [] [] (fun _ X=>[(3,X)]) (fun T X=>[.box U1 66 [U0,iv T.1,iv T.2.1],.own X (lc T.2.2)]) r2 r2 (?_) fun T48 X49=>?_
    ·refine Wc r (fun H50=>?_) fun H50=>?_
     ·exact Rg<|Qs 3 r<|Bi fun R51 H52=>Fo (Cl [0] zfB H52 r r1 ⟨(Bc Z0),⟨⟩⟩) fun _=>Bi fun E54 H55=>Yo (Y.cat H55 r r)<|Bi fun E56 H57=>Yo (Ix ke27 (Oc 1 r) H57 r)<|Yo (Fe zfg (Oc 1 r) H57 r)<|Fu (Se (⟨E56.Key,E56.Del,E54⟩:Op) 1 kk9 H57 r (Cp r) r)<|Nl<|Jg X8 [0,0]
     exact Sr<|Qs 2 r<|Nx<|Jn Value [] [0] (fun _ X=>[(3,X)]) (fun T X=>[.own X (lc T)]) r2 r2 (Wc r (fun H60=>Rg<|Qs 2 r<|Bi fun E62 H63=>Fo (Ap [1] H63 ke27 kz120 r (Oc 1 r)) fun V61=>Qs 1 r<|Nl<|Jg V61 [1,0]) fun H60=>Rg<|Fo (Bs ([]:List Op) ke27 kz120) fun B64=>Qs 1 r<|Nl<|Jg (.slice (some ⟨B64,0,none⟩) 0 0) [1,0]) fun T58 X59=>Jg X59 [0,0]
    exact Jg X49 [0,0]
   exact Bn<|Jg X40 [0,0]
  exact Sk<|Jg X8 [0,0]
 exact Ne<|Sr<|Qs 2 r<|Nx<|Wr<|Re X31 [0,0]
noncomputable def zes (c:L1Cur):Option (List Op × L1Cur):=
 (z9 c 8).bind fun R1=>
 if R1.1=true then ((ze2 (⟨c.b,R1.2.i,R1.2.h⟩:L1Cur)).bind fun R5=>
 some (R5.1,(⟨c.b,R5.2.i,R5.2.h⟩:L1Cur)))
 else ((zx (⟨c.b,R1.2.i,R1.2.h⟩:L1Cur) (2:Int)).bind fun R9=>
 bindC (loopO (fun (S12:Int × Int × Int × List Op)=>if decide (S12.2.2.1>0) then ((zb2 (⟨c.b,S12.1,S12.2.1⟩:L1Cur) ([[97],[98],[97,98],[99],[100]])).bind fun R18=>
 (z9 (⟨c.b,R18.2.i,R18.2.h⟩:L1Cur) (4:Int)).bind fun R22=>
 bindC (if R22.1=true then (some (.go (R22.2.i,R22.2.h,true,[])))
 else ((zc4 (⟨c.b,R22.2.i,R22.2.h⟩:L1Cur) (3:Int)).bind fun R28=>
 some (.go (R28.2.i,R28.2.h,false,R28.1))))
 (fun (T25:Int × Int × Bool × List UInt8)=>(app 40 S12.2.2.2 ([(⟨R18.1,T25.2.2.1,T25.2.2.2⟩:Op)])).bind fun E33=>
 some (.go (T25.1,T25.2.1,IntKind.i64.wrap (S12.2.2.1 - 1),E33))))
 else (some (.done (.go (S12.1,S12.2.1,S12.2.2.2)))))
 (R9.2.i,R9.2.h,IntKind.i64.wrap ((1:Int)+R9.1),([]:List Op)))
 (fun (T14:Int × Int × List Op)=>some (T14.2.2,(⟨c.b,T14.1,T14.2.1⟩:L1Cur))))
theorem zmm {c:L1Cur} {U0:Value} {U1:Nat} :Cn Tryz.prog 42 [pt U1] [.box U1 66 [U0,iv c.i,iv c.h]] [(U0,lc c.b)] (zes c) (fun _ (X:Value)=>X) fun r X=>[.box U1 66 [U0,iv r.2.i,iv r.2.h],.own X (lc r.1)]:=by
 unfold zes
 refine Ci Tryz.func42 r r ?_
 rintro w S ⟨Z0,-⟩
 refine Sr<|Qs 1 r<|Nx<|Sq<|Sr<|Qs 1 r<|Bi fun R1 H2=>Fo (Cl [0] zbe H2 r r1 ⟨(Bc Z0),⟨⟩⟩) fun _=>Nx<|Wc r (fun H4=>Sr<|Qs 1 r<|Bi fun R5 H6=>Fo (Cl [0] zm7 H6 r r1 ⟨(Bc Z0),⟨⟩⟩) fun Y7=>Qs 1 r<|Nx<|Wr<|Tr<|Re Y7 [0,0]) fun H4=>Sn<|Sr<|Fo (Bs ([]:List Op) ke27 kz120) fun B8=>Qs 1 r<|Nx<|Sq<|Sr<|Qs 1 r<|Bi fun R9 H10=>Fo (Cl [1] zA H10 r r1 ⟨(Bc Z0),⟨⟩⟩) fun _=>Qs 2 r<|Nx<|Jn Value [] [] (fun _ X=>[(3,X)]) (fun T X=>[.box U1 66 [U0,iv T.1,iv T.2.1],.own X (lc T.2.2)]) r2 r2 (?_) fun T14 X15=>?_
 ·refine Wb<|Lp Value [0] [] (fun T X=>[(3,X),(4,iv T.2.2.1)]) (fun T X=>[.box U1 66 [U0,iv T.1,iv T.2.1],.own X (lc T.2.2.2)]) (.slice (some ⟨B8,0,none⟩) 0 0) [0,0] r2 r2 fun S12 X13=>Sq<|Sr<|Qs 2 r<|Nx<|Wc r (fun H16=>?_) fun H16=>?_
  ·refine Sn<|Sq<|Wb<|Sr<|Qs 1 r<|Fo (Bs [[97],[98],[97,98],[99],[100]] ke82 kz9) fun B17=>Bi fun R18 H19=>Fo (Cl [1] zcN H19 r r1 ⟨(Bc Z0),(Oc 0 r),⟨⟩⟩) fun _=>Yo (Bd kp120 kz120 (Pc r (Cp r)<|Pz) r)<|Fo (Al kz120 r) fun B21=>Fu (Sb 0 kk120 r (Cp r) r)<|Nx<|Sq<|Sr<|Qs 1 r<|Bi fun R22 H23=>Fo (Cl [1] zbe H23 r r1 ⟨(Bc Z0),⟨⟩⟩) fun _=>Nx<|Jn Unit [0,3,4,5] [3] (fun _ _=>[]) (fun T _=>[.box U1 66 [U0,iv T.1,iv T.2.1],.box B21 120 [strV R18.1,.bool T.2.2.1,strV T.2.2.2]]) r2 r2 (Wc r (fun H27=>Rg<|Yo (Fb zff r)<|Fu (Sb 1 kk4 r (Cp r) r)<|Nl<|Jg () [3,0,0]) fun H27=>Rg<|Qs 1 r<|Bi fun R28 H29=>Fo (Cl [0] zfB H29 r r1 ⟨(Bc Z0),⟨⟩⟩) fun _=>Yo (Fb zfg r)<|Fu (Sb 1 kk9 r (Cp r) r)<|Nl<|Jg () [3,0,0]) fun T25 X26=>?_
   exact Ne<|Rg<|Qs 1 r<|Yo (Lb 2 kk120 r)<|Fo (Bs [(⟨R18.1,T25.2.2.1,T25.2.2.2⟩:Op)] ke27 kz120) fun B31=>Bi fun E33 H34=>Fo (Ap [1] H34 ke27 kz120 r (Oc 0 r)) fun V32=>Qs 1 r<|Nl<|Bn<|Ne<|Rg<|Qs 3 r<|Nl<|Lg V32 [2,0]
  exact Wx<|Tx<|Ex<|Be<|Jg X13 [0,0]
 exact Ne<|Sr<|Qs 2 r<|Nx<|Wr<|Re X15 [0,0]
noncomputable def ze0 (c:L1Cur) (s:List UInt8):Option (List UInt8 × L1Cur):=
 if decide ((s.length:Int)=0) then ((zc4 c 3).bind fun R2=>
 some (R2.1,(⟨c.b,R2.2.i,R2.2.h⟩:L1Cur)))
 else ((zx c (s.length:Int)).bind fun R5=>
 (zx (⟨c.b,R5.2.i,R5.2.h⟩:L1Cur) (4:Int)).bind fun R8=>
 if decide (R8.1=0) then ((ssub s 0 R5.1).bind fun E12=>
 (ssub s (IntKind.i64.wrap (R5.1+1)) (s.length:Int)).bind fun E14=>
 (cat E12 E14).bind fun E16=>
 some (E16,(⟨c.b,R8.2.i,R8.2.h⟩:L1Cur)))
 else (if decide (R8.1=1) then ((ssub s 0 R5.1).bind fun E19=>
 (ssub s R5.1 (s.length:Int)).bind fun E21=>
 (zbr (⟨c.b,R8.2.i,R8.2.h⟩:L1Cur)).bind fun R23=>
 (cat E19 ([toU8 R23.1])).bind fun E27=>
 (cat E27 E21).bind fun E29=>
 some (E29,(⟨c.b,R23.2.i,R23.2.h⟩:L1Cur)))
 else (if decide (R8.1=2) then ((ssub s 0 R5.1).bind fun E32=>
 some (E32,(⟨c.b,R8.2.i,R8.2.h⟩:L1Cur)))
 else ((ssub s 0 R5.1).bind fun E34=>
 (sidx s R5.1).bind fun E36=>
 (ssub s (IntKind.i64.wrap (R5.1+1)) (s.length:Int)).bind fun E38=>
 (zx (⟨c.b,R8.2.i,R8.2.h⟩:L1Cur) (255:Int)).bind fun R40=>
 (cat E34 ([toU8 (ixor .i64 (IntKind.i64.wrap (E36.toNat:Int)) (IntKind.i64.wrap ((1:Int)+R40.1)))])).bind fun E44=>
 (cat E44 E38).bind fun E46=>
 some (E46,(⟨c.b,R40.2.i,R40.2.h⟩:L1Cur))))))
theorem zm2 {c:L1Cur} {s:List UInt8} {U0:Value} {U1:Nat} :Cn Tryz.prog 43 [pt U1,strV s] [.box U1 66 [U0,iv c.i,iv c.h]] [(U0,lc c.b)] (ze0 c s) (fun r (_:Unit)=>strV r.1) fun r _=>[.box U1 66 [U0,iv r.2.i,iv r.2.h]]:=by
 unfold ze0
 refine Ci Tryz.func43 r r ?_
 rintro w S ⟨Z0,-⟩
 refine Sr<|Qs 1 r<|Nx<|Sq<|Sr<|Qs 1 r<|Yo (Y.slen ks9 r)<|Qs 1 r<|Nx<|Wc r (fun H1=>Sr<|Qs 1 r<|Bi fun R2 H3=>Fo (Cl [0] zfB H3 r r1 ⟨(Bc Z0),⟨⟩⟩) fun _=>Qs 1 r<|Nx<|Wr<|Tr<|Re () [0]) fun H1=>Sn<|Sr<|Qs 2 r<|Yo (Y.slen ks9 r)<|Bi fun R5 H6=>Fo (Cl [0] zA H6 r r1 ⟨(Bc Z0),⟨⟩⟩) fun _=>Qs 1 r<|Nx<|Sq<|Sr<|Qs 1 r<|Bi fun R8 H9=>Fo (Cl [0] zA H9 r r1 ⟨(Bc Z0),⟨⟩⟩) fun _=>Nx<|Wb<|Sr<|Qs 2 r<|Nx<|Wc r (fun H11=>Sq<|Dr [0] r hMix<|Aq [0,1] [0] r<|Ai fun E12 H13=>Ay 2 [0] r (Y.ssub_to H13 ks9 r r)<|Aq [3,4,5] [0] r<|Ai fun E14 H15=>Ay 6 [0] r (Y.ssub_from H15 ks9 r r)<|Ai fun E16 H17=>Ay 7 [0] r (Y.cat H17 r r)<|Aq [8] [0] r<|Az<|Ne<|Wr<|Br<|Tr<|Re () [0]) fun H11=>?_
 refine Sr<|Qs 2 r<|Nx<|Wc r (fun H18=>?_) fun H18=>?_
 ·exact Sq<|Dr [] r hMix<|Aq [0,1] [] r<|Ai fun E19 H20=>Ay 2 [] r (Y.ssub_to H20 ks9 r r)<|Aq [3,9,10] [] r<|Ai fun E21 H22=>Ay 11 [] r (Y.ssub_from H22 ks9 r r)<|Ai fun R23 H24=>A1 4<|Xe [] r (Cl [0] zch H24 r r1 ⟨(Bc Z0),⟨⟩⟩) fun _=>Ay 5 [] r (Y.conv8 ki3 ki5 r)<|A1 6<|Xe [] r (Bs [toU8 R23.1] ke22 kz5) fun B26=>A1 7<|Xy [] r (Y.toStr ke22 ki5 ks9 (Oc 0 r) r)<|Ai fun E27 H28=>Ay 8 [] r (Y.cat H28 r r)<|Ai fun E29 H30=>Ay 12 [] r (Y.cat H30 r r)<|Aq [13] [] r<|Az<|Ne<|Wr<|Br<|Tr<|Re () [1]
 refine Sr<|Qs 2 r<|Nx<|Wc r (fun H31=>Sr<|Qs 2 r<|Bi fun E32 H33=>Yo (Y.ssub_to H33 ks9 r r)<|Qs 1 r<|Nx<|Wr<|Br<|Tr<|Re () [0]) fun H31=>Sk<|Bn<|Ne<|Sq<|Dr [] r hMix<|Aq [0,1] [] r<|Ai fun E34 H35=>Ay 2 [] r (Y.ssub_to H35 ks9 r r)<|Aq [3,4] [] r<|Ai fun E36 H37=>Ay 5 [] r (Y.sidx H37 ks9 r r)<|Ay 6 [] r (Y.conv ki5 ki3 r)<|Aq [7,15,16,17] [] r<|Ai fun E38 H39=>Ay 18 [] r (Y.ssub_from H39 ks9 r r)<|Ai fun R40 H41=>A1 8<|Xe [] r (Cl [0] zA H41 r r1 ⟨(Bc Z0),⟨⟩⟩) fun _=>Aq [9,10] [] r<|Ay 11 [] r (Y.conv8 ki3 ki5 r)<|A1 12<|Xe [] r (Bs [toU8 (ixor .i64 (IntKind.i64.wrap (E36.toNat:Int)) (IntKind.i64.wrap ((1:Int)+R40.1)))] ke22 kz5) fun B43=>?_
 exact A1 13<|Xy [] r (Y.toStr ke22 ki5 ks9 (Oc 0 r) r)<|Ai fun E44 H45=>Ay 14 [] r (Y.cat H45 r r)<|Ai fun E46 H47=>Ay 19 [] r (Y.cat H47 r r)<|Aq [20] [] r<|Az<|Ne<|Wr<|Re () [1]
noncomputable def ze1 (c:L1Cur) (secret:List UInt8):Option (Call × L1Cur):=
 (zx c 3).bind fun R2=>
 (zbs (⟨c.b,R2.2.i,R2.2.h⟩:L1Cur) ([(0:Int),(0:Int),(0:Int),(0:Int),(0:Int),(1:Int)])).bind fun R6=>
 (zdd secret (IntKind.i64.wrap ((1:Int)+R2.1)) R6.1).bind fun R9=>
 (zx (⟨c.b,R6.2.i,R6.2.h⟩:L1Cur) (24:Int)).bind fun R13=>
 bindC (if decide (R13.1=0) then (some (.go (decide (R13.1=0))))
 else (some (.go (decide (R13.1=1)))))
 (fun (T16:Bool)=>bindC (if T16=true then ((zbs (⟨c.b,R13.2.i,R13.2.h⟩:L1Cur) ([(40:Int),(40:Int),(20:Int),(0:Int),(41:Int)])).bind fun R23=>
 (zx (⟨c.b,R23.2.i,R23.2.h⟩:L1Cur) (250:Int)).bind fun R26=>
 (zcE (toU8 R26.1)).bind fun R29=>
 some (.go (R26.2.i,R26.2.h,(1:Int),R23.1,R29,[],([]:List Op))))
 else (bindC (if decide (R13.1=2) then ((zbs (⟨c.b,R13.2.i,R13.2.h⟩:L1Cur) ([(40:Int),(10:Int),(30:Int),(-1:Int),(41:Int)])).bind fun R36=>
 some (.go (R36.2.i,R36.2.h,(2:Int),R36.1,[],[],([]:List Op))))
 else (bindC (if decide (R13.1=3) then ((z9 (⟨c.b,R13.2.i,R13.2.h⟩:L1Cur) (2:Int)).bind fun R42=>
 bindC (if R42.1=true then (some (.go (3:Int)))
 else (some (.go (5:Int))))
 (fun (T45:Int)=>some (.go (R42.2.i,R42.2.h,T45,(0:Int),[],[],([]:List Op)))))
 else (bindC (if decide (R13.1=4) then ((z9 (⟨c.b,R13.2.i,R13.2.h⟩:L1Cur) (4:Int)).bind fun R51=>
 bindC (if R51.1=true then (some (.go (4:Int)))
 else (some (.go (5:Int))))
 (fun (T54:Int)=>some (.go (R51.2.i,R51.2.h,T54,(0:Int),[],[],([]:List Op)))))
 else (bindC (if decide (R13.1=5) then (some (.go (decide (R13.1=5))))
 else (bindC (if decide (R13.1=6) then (some (.go (decide (R13.1=6))))
 else (some (.go (decide (R13.1=7)))))
 (fun (T60:Bool)=>some (.go T60))))
 (fun (T57:Bool)=>bindC (if T57=true then ((zb2 (⟨c.b,R13.2.i,R13.2.h⟩:L1Cur) ([[97],[98],[97,98],[99],[100],[122,122]])).bind fun R67=>
 some (.go (R67.2.i,R67.2.h,(6:Int),(0:Int),R67.1,[],([]:List Op))))
 else (bindC (if decide (R13.1=8) then (some (.go (decide (R13.1=8))))
 else (some (.go (decide (R13.1=9)))))
 (fun (T70:Bool)=>bindC (if T70=true then ((zb2 (⟨c.b,R13.2.i,R13.2.h⟩:L1Cur) ([[],[97],[98]])).bind fun R77=>
 (zb2 (⟨c.b,R77.2.i,R77.2.h⟩:L1Cur) ([[],[99],[98]])).bind fun R81=>
 some (.go (R81.2.i,R81.2.h,(7:Int),(0:Int),R77.1,R81.1,([]:List Op))))
 else (bindC (if decide (R13.1=10) then (some (.go (R13.2.i,R13.2.h,(8:Int),(0:Int),[],([]:List Op))))
 else (bindC (if decide (R13.1=11) then ((zx (⟨c.b,R13.2.i,R13.2.h⟩:L1Cur) (5:Int)).bind fun R90=>
 some (.go (R90.2.i,R90.2.h,(9:Int),R90.1,[],([]:List Op))))
 else (bindC (if decide (R13.1=12) then (some (.go (decide (R13.1=12))))
 else (some (.go (decide (R13.1=13)))))
 (fun (T93:Bool)=>bindC (if T93=true then ((zx (⟨c.b,R13.2.i,R13.2.h⟩:L1Cur) (5:Int)).bind fun R99=>
 (zb2 (⟨c.b,R99.2.i,R99.2.h⟩:L1Cur) ([[97],[98],[97,98],[99]])).bind fun R103=>
 some (.go (R103.2.i,R103.2.h,(10:Int),R99.1,R103.1,([]:List Op))))
 else (bindC (if decide (R13.1=14) then (some (.go (R13.2.i,R13.2.h,(11:Int),(0:Int),([]:List Op))))
 else (bindC (if decide (R13.1=15) then (some (.go (R13.2.i,R13.2.h,(12:Int),(0:Int),([]:List Op))))
 else (bindC (if decide (R13.1=16) then (some (.go (R13.2.i,R13.2.h,(13:Int),(0:Int),([]:List Op))))
 else (bindC (if decide (R13.1=17) then ((zbs (⟨c.b,R13.2.i,R13.2.h⟩:L1Cur) ([(0:Int),(0:Int),(1:Int),(2:Int),(9:Int),(-1:Int)])).bind fun R119=>
 some (.go (R119.2.i,R119.2.h,(14:Int),R119.1,([]:List Op))))
 else ((zes (⟨c.b,R13.2.i,R13.2.h⟩:L1Cur)).bind fun R122=>
 some (.go (R122.2.i,R122.2.h,(5:Int),(0:Int),R122.1))))
 (fun (T115:Int × Int × Int × Int × List Op)=>some (.go (T115.1,T115.2.1,T115.2.2.1,T115.2.2.2.1,T115.2.2.2.2)))))
 (fun (T112:Int × Int × Int × Int × List Op)=>some (.go (T112.1,T112.2.1,T112.2.2.1,T112.2.2.2.1,T112.2.2.2.2)))))
 (fun (T109:Int × Int × Int × Int × List Op)=>some (.go (T109.1,T109.2.1,T109.2.2.1,T109.2.2.2.1,T109.2.2.2.2)))))
 (fun (T106:Int × Int × Int × Int × List Op)=>some (.go (T106.1,T106.2.1,T106.2.2.1,T106.2.2.2.1,[],T106.2.2.2.2)))))
 (fun (T96:Int × Int × Int × Int × List UInt8 × List Op)=>some (.go (T96.1,T96.2.1,T96.2.2.1,T96.2.2.2.1,T96.2.2.2.2.1,T96.2.2.2.2.2))))))
 (fun (T87:Int × Int × Int × Int × List UInt8 × List Op)=>some (.go (T87.1,T87.2.1,T87.2.2.1,T87.2.2.2.1,T87.2.2.2.2.1,T87.2.2.2.2.2)))))
 (fun (T84:Int × Int × Int × Int × List UInt8 × List Op)=>some (.go (T84.1,T84.2.1,T84.2.2.1,T84.2.2.2.1,T84.2.2.2.2.1,[],T84.2.2.2.2.2)))))
 (fun (T73:Int × Int × Int × Int × List UInt8 × List UInt8 × List Op)=>some (.go (T73.1,T73.2.1,T73.2.2.1,T73.2.2.2.1,T73.2.2.2.2.1,T73.2.2.2.2.2.1,T73.2.2.2.2.2.2))))))
 (fun (T63:Int × Int × Int × Int × List UInt8 × List UInt8 × List Op)=>some (.go (T63.1,T63.2.1,T63.2.2.1,T63.2.2.2.1,T63.2.2.2.2.1,T63.2.2.2.2.2.1,T63.2.2.2.2.2.2))))))
 (fun (T48:Int × Int × Int × Int × List UInt8 × List UInt8 × List Op)=>some (.go (T48.1,T48.2.1,T48.2.2.1,T48.2.2.2.1,T48.2.2.2.2.1,T48.2.2.2.2.2.1,T48.2.2.2.2.2.2)))))
 (fun (T39:Int × Int × Int × Int × List UInt8 × List UInt8 × List Op)=>some (.go (T39.1,T39.2.1,T39.2.2.1,T39.2.2.2.1,T39.2.2.2.2.1,T39.2.2.2.2.2.1,T39.2.2.2.2.2.2)))))
 (fun (T32:Int × Int × Int × Int × List UInt8 × List UInt8 × List Op)=>some (.go (T32.1,T32.2.1,T32.2.2.1,T32.2.2.2.1,T32.2.2.2.2.1,T32.2.2.2.2.2.1,T32.2.2.2.2.2.2)))))
 (fun (T19:Int × Int × Int × Int × List UInt8 × List UInt8 × List Op)=>(z9 (⟨c.b,T19.1,T19.2.1⟩:L1Cur) (30:Int)).bind fun R125=>
 bindC (if R125.1=true then ((zbs (⟨c.b,R125.2.i,R125.2.h⟩:L1Cur) ([(0:Int),(15:Int)])).bind fun R132=>
 some (.go (R132.2.i,R132.2.h,R132.1)))
 else (some (.go (R125.2.i,R125.2.h,T19.2.2.1))))
 (fun (T128:Int × Int × Int)=>(z9 (⟨c.b,T128.1,T128.2.1⟩:L1Cur) (25:Int)).bind fun R135=>
 bindC (if R135.1=true then ((ze0 (⟨c.b,R135.2.i,R135.2.h⟩:L1Cur) R9).bind fun R141=>
 some (.go (R141.1,R141.2.i,R141.2.h)))
 else (some (.go (R9,R135.2.i,R135.2.h))))
 (fun (T138:List UInt8 × Int × Int)=>some ((⟨T128.2.2,T138.1,IntKind.i64.wrap ((1:Int)+R2.1),T19.2.2.2.1,T19.2.2.2.2.1,T19.2.2.2.2.2.1,T19.2.2.2.2.2.2⟩:Call),(⟨c.b,T138.2.1,T138.2.2⟩:L1Cur))))))
theorem zm3 {c:L1Cur} {secret:List UInt8} {U0:Value} {U1:Nat} :Cn Tryz.prog 28 [pt U1,strV secret] [.box U1 66 [U0,iv c.i,iv c.h]] [(U0,lc c.b)] (ze1 c secret) (fun r (X:Value)=>.agg #[iv r.1.Kind,strV r.1.Token,iv r.1.Tenant,iv r.1.N,strV r.1.Key,strV r.1.To,X]) fun r X=>[.box U1 66 [U0,iv r.2.i,iv r.2.h],.own X (lc r.1.Ops)]:=by
 unfold ze1
 refine Ci Tryz.func28 r r ?_
 rintro w S ⟨Z0,-⟩
 refine Sr<|Fo (Al kz29 r) fun B1=>Nx<|Sr<|Qs 1 r<|Bi fun R2 H3=>Fo (Cl [1] zA H3 r r1 ⟨(Bc Z0),⟨⟩⟩) fun _=>Qs 2 r<|Nx<|Sr<|Qs 3 r<|Fo (Bs [(0:Int),(0:Int),(0:Int),(0:Int),(0:Int),(1:Int)] ke53 kz3) fun B5=>Bi fun R6 H7=>Fo (Cl [1] zcs H7 r r1 ⟨(Bc Z0),(Oc 0 r),⟨⟩⟩) fun _=>Bi fun R9 H10=>Fo (Cl [] zhI H10 r r1) fun _=>Qs 1 r<|Yo (Bd kp29 kz29 (Pc r (Cp r)<|Pc r (Cp r)<|Pc r (Cp r)<|Pz) r)<|Fo (Al kz29 r) fun B12=>Fu (Sb 0 kk29 r (Cp r) r)<|Nx<|Sq<|Sr<|Qs 1 r<|Bi fun R13 H14=>?_
 refine Fo (Cl [1] zA H14 r r1 ⟨(Bc Z0),⟨⟩⟩) fun _=>Nx<|Wb<|Sq<|Sr<|Qs 2 r<|Nx<|Jn Unit [0,4,6,19] [0,2,0] (fun T _=>[(23,.bool T)]) (fun _ _=>[]) r2 r2 (Wc r (fun H18=>Sk<|Jg () [0,2,0]) fun H18=>Rg<|Qs 2 r<|Nl<|Jg () [0,2,0]) fun T16 X17=>Ne<|Jn Value [0,4,6] [1] (fun _ _=>[]) (fun T X=>[.box U1 66 [U0,iv T.1,iv T.2.1],.box B12 29 [iv T.2.2.1,strV R9,iv (IntKind.i64.wrap ((1:Int)+R2.1)),iv T.2.2.2.1,strV T.2.2.2.2.1,strV T.2.2.2.2.2.1,X],.own X (lc T.2.2.2.2.2.2)]) r2 r2 (?_) fun T19 X20=>?_
 ·refine Wc r (fun H21=>?_) fun H21=>?_
  ·exact Sr<|Yo (Fb z7 r)<|Fu (Sb 2 kk3 r (Cp r) r)<|Nx<|Sr<|Qs 1 r<|Fo (Bs [(40:Int),(40:Int),(20:Int),(0:Int),(41:Int)] ke53 kz3) fun B22=>Bi fun R23 H24=>Fo (Cl [1] zcs H24 r r1 ⟨(Bc Z0),(Oc 0 r),⟨⟩⟩) fun _=>Yo (Fb zdI r)<|Fu (Sb 3 kk3 r (Cp r) r)<|Nx<|Rg<|Qs 1 r<|Bi fun R26 H27=>Fo (Cl [0] zA H27 r r1 ⟨(Bc Z0),⟨⟩⟩) fun _=>Yo (Y.conv8 ki3 ki5 r)<|Bi fun R29 H30=>Fo (Cl [] zfj H30 r r1) fun _=>Yo (Fb zf8 r)<|Fu (Sb 3 kk9 r (Cp r) r)<|Nl<|Ni 3<|Jg (.slice none 0 0) [3,1,2,0]
  refine Sr<|Qs 2 r<|Nx<|Jn Value [0,4,6] [1] (fun _ _=>[]) (fun T X=>[.box U1 66 [U0,iv T.1,iv T.2.1],.box B12 29 [iv T.2.2.1,strV R9,iv (IntKind.i64.wrap ((1:Int)+R2.1)),iv T.2.2.2.1,strV T.2.2.2.2.1,strV T.2.2.2.2.2.1,X],.own X (lc T.2.2.2.2.2.2)]) r2 r2 (?_) fun T32 X33=>?_
  ·refine Wc r (fun H34=>?_) fun H34=>?_
   ·exact Sr<|Yo (Fb z7 r)<|Fu (Sb 2 kk3 r (Cp r) r)<|Nx<|Rg<|Qs 1 r<|Fo (Bs [(40:Int),(10:Int),(30:Int),(-1:Int),(41:Int)] ke53 kz3) fun B35=>Bi fun R36 H37=>Fo (Cl [1] zcs H37 r r1 ⟨(Bc Z0),(Oc 0 r),⟨⟩⟩) fun _=>Yo (Fb zdI r)<|Fu (Sb 3 kk3 r (Cp r) r)<|Nl<|Ni 3<|Jg (.slice none 0 0) [3,1,2,0]
   refine Sr<|Qs 2 r<|Nx<|Jn Value [0,4,6] [1] (fun _ _=>[]) (fun T X=>[.box U1 66 [U0,iv T.1,iv T.2.1],.box B12 29 [iv T.2.2.1,strV R9,iv (IntKind.i64.wrap ((1:Int)+R2.1)),iv T.2.2.2.1,strV T.2.2.2.2.1,strV T.2.2.2.2.2.1,X],.own X (lc T.2.2.2.2.2.2)]) r2 r2 (?_) fun T39 X40=>?_
   ·refine Wc r (fun H41=>?_) fun H41=>?_
    ·exact Sr<|Qs 1 r<|Bi fun R42 H43=>Fo (Cl [0] zbe H43 r r1 ⟨(Bc Z0),⟨⟩⟩) fun _=>Nx<|Jn Unit [0,4,6] [0,0] (fun _ _=>[]) (fun T _=>[.box B12 29 [iv T,strV R9,iv (IntKind.i64.wrap ((1:Int)+R2.1)),iv 0,strV ([]),strV ([]),.slice none 0 0]]) r2 r2 (Wc r (fun H47=>Rg<|Yo (Fb z7 r)<|Fu (Sb 2 kk3 r (Cp r) r)<|Nl<|Jg () [0,0,0]) fun H47=>Sk<|Jg () [0,0,0]) fun T45 X46=>Ni 3<|Jg (.slice none 0 0) [2,1,1,0]
    refine Sr<|Qs 2 r<|Nx<|Jn Value [0,4,6] [1] (fun _ _=>[]) (fun T X=>[.box U1 66 [U0,iv T.1,iv T.2.1],.box B12 29 [iv T.2.2.1,strV R9,iv (IntKind.i64.wrap ((1:Int)+R2.1)),iv T.2.2.2.1,strV T.2.2.2.2.1,strV T.2.2.2.2.2.1,X],.own X (lc T.2.2.2.2.2.2)]) r2 r2 (?_) fun T48 X49=>?_
    ·refine Wc r (fun H50=>?_) fun H50=>?_
     ·exact Sr<|Qs 1 r<|Bi fun R51 H52=>Fo (Cl [0] zbe H52 r r1 ⟨(Bc Z0),⟨⟩⟩) fun _=>Nx<|Jn Unit [0,4,6] [0,0] (fun _ _=>[]) (fun T _=>[.box B12 29 [iv T,strV R9,iv (IntKind.i64.wrap ((1:Int)+R2.1)),iv 0,strV ([]),strV ([]),.slice none 0 0]]) r2 r2 (Wc r (fun H56=>Rg<|Yo (Fb z7 r)<|Fu (Sb 2 kk3 r (Cp r) r)<|Nl<|Jg () [0,0,0]) fun H56=>Sk<|Jg () [0,0,0]) fun T54 X55=>Ni 3<|Jg (.slice none 0 0) [2,1,1,0]
     refine Sq<|Sr<|Qs 2 r<|Nx<|Ju [0,4,6,19] (fun T=>[(53,.bool T)]) r1 (Wc r (fun H59=>Sk<|Jg () [0,0,0]) fun H59=>Sr<|Qs 2 r<|Nx<|Ju [0,4,6,19] (fun T=>[(53,.bool T)]) r1 (Wc r (fun H62=>Sk<|Jg () [0,0,0]) fun H62=>Rg<|Qs 2 r<|Nl<|Jg () [0,0,0]) fun T60=>Jg () [0,0,0]) fun T57=>Ne<|Jn Value [0,4,6] [1] (fun _ _=>[]) (fun T X=>[.box U1 66 [U0,iv T.1,iv T.2.1],.box B12 29 [iv T.2.2.1,strV R9,iv (IntKind.i64.wrap ((1:Int)+R2.1)),iv T.2.2.2.1,strV T.2.2.2.2.1,strV T.2.2.2.2.2.1,X],.own X (lc T.2.2.2.2.2.2)]) r2 r2 (?_) fun T63 X64=>?_
     ·refine Wc r (fun H65=>?_) fun H65=>?_
      ·exact Sr<|Yo (Fb z7 r)<|Fu (Sb 2 kk3 r (Cp r) r)<|Nx<|Rg<|Qs 1 r<|Fo (Bs [[97],[98],[97,98],[99],[100],[122,122]] ke82 kz9) fun B66=>Bi fun R67 H68=>Fo (Cl [1] zcN H68 r r1 ⟨(Bc Z0),(Oc 0 r),⟨⟩⟩) fun _=>Yo (Fb zf8 r)<|Fu (Sb 3 kk9 r (Cp r) r)<|Nl<|Ni 3<|Jg (.slice none 0 0) [3,1,2,0]
      refine Sq<|Sr<|Qs 2 r<|Nx<|Ju [0,4,6,19] (fun T=>[(62,.bool T)]) r1 (Wc r (fun H72=>Sk<|Jg () [0,0,0]) fun H72=>Rg<|Qs 2 r<|Nl<|Jg () [0,0,0]) fun T70=>Ne<|Jn Value [0,4,6] [1] (fun _ _=>[]) (fun T X=>[.box U1 66 [U0,iv T.1,iv T.2.1],.box B12 29 [iv T.2.2.1,strV R9,iv (IntKind.i64.wrap ((1:Int)+R2.1)),iv T.2.2.2.1,strV T.2.2.2.2.1,strV T.2.2.2.2.2.1,X],.own X (lc T.2.2.2.2.2.2)]) r2 r2 (?_) fun T73 X74=>?_
      ·refine Wc r (fun H75=>?_) fun H75=>?_
       ·exact Sr<|Yo (Fb z7 r)<|Fu (Sb 2 kk3 r (Cp r) r)<|Nx<|Sr<|Qs 1 r<|Fo (Bs [[],[97],[98]] ke82 kz9) fun B76=>Bi fun R77 H78=>Fo (Cl [1] zcN H78 r r1 ⟨(Bc Z0),(Oc 0 r),⟨⟩⟩) fun _=>Yo (Fb zf8 r)<|Fu (Sb 3 kk9 r (Cp r) r)<|Nx<|Rg<|Qs 1 r<|Fo (Bs [[],[99],[98]] ke82 kz9) fun B80=>Bi fun R81 H82=>Fo (Cl [1] zcN H82 r r1 ⟨(Bc Z0),(Oc 0 r),⟨⟩⟩) fun _=>Yo (Fb zrw r)<|Fu (Sb 4 kk9 r (Cp r) r)<|Nl<|Ni 3<|Jg (.slice none 0 0) [4,1,3,0]
       refine Sr<|Qs 2 r<|Nx<|Jn Value [0,4,6] [1] (fun _ _=>[]) (fun T X=>[.box U1 66 [U0,iv T.1,iv T.2.1],.box B12 29 [iv T.2.2.1,strV R9,iv (IntKind.i64.wrap ((1:Int)+R2.1)),iv T.2.2.2.1,strV T.2.2.2.2.1,strV ([]),X],.own X (lc T.2.2.2.2.2)]) r2 r2 (?_) fun T84 X85=>?_
       ·refine Wc r (fun H86=>Rg<|Yo (Fb z7 r)<|Fu (Sb 2 kk3 r (Cp r) r)<|Nl<|Ni 3<|Jg (.slice none 0 0) [2,1,1,0]) fun H86=>Sr<|Qs 2 r<|Nx<|Jn Value [0,4,6] [1] (fun _ _=>[]) (fun T X=>[.box U1 66 [U0,iv T.1,iv T.2.1],.box B12 29 [iv T.2.2.1,strV R9,iv (IntKind.i64.wrap ((1:Int)+R2.1)),iv T.2.2.2.1,strV T.2.2.2.2.1,strV ([]),X],.own X (lc T.2.2.2.2.2)]) r2 r2 (?_) fun T87 X88=>?_
        ·refine Wc r (fun H89=>Sr<|Yo (Fb z7 r)<|Fu (Sb 2 kk3 r (Cp r) r)<|Nx<|Rg<|Qs 1 r<|Bi fun R90 H91=>Fo (Cl [0] zA H91 r r1 ⟨(Bc Z0),⟨⟩⟩) fun _=>Yo (Fb zdI r)<|Fu (Sb 2 kk3 r (Cp r) r)<|Nl<|Ni 3<|Jg (.slice none 0 0) [2,1,1,0]) fun H89=>Sq<|Sr<|Qs 2 r<|Nx<|Ju [0,4,6,19] (fun T=>[(83,.bool T)]) r1 (Wc r (fun H95=>Sk<|Jg () [0,0,0]) fun H95=>Rg<|Qs 2 r<|Nl<|Jg () [0,0,0]) fun T93=>Ne<|Jn Value [0,4,6] [1] (fun _ _=>[]) (fun T X=>[.box U1 66 [U0,iv T.1,iv T.2.1],.box B12 29 [iv T.2.2.1,strV R9,iv (IntKind.i64.wrap ((1:Int)+R2.1)),iv T.2.2.2.1,strV T.2.2.2.2.1,strV ([]),X],.own X (lc T.2.2.2.2.2)]) r2 r2 (?_) fun T96 X97=>?_
         ·refine Wc r (fun H98=>?_) fun H98=>?_
          ·exact Sr<|Yo (Fb z7 r)<|Fu (Sb 2 kk3 r (Cp r) r)<|Nx<|Sr<|Qs 1 r<|Bi fun R99 H100=>Fo (Cl [0] zA H100 r r1 ⟨(Bc Z0),⟨⟩⟩) fun _=>Yo (Fb zdI r)<|Fu (Sb 2 kk3 r (Cp r) r)<|Nx<|Rg<|Qs 1 r<|Fo (Bs [[97],[98],[97,98],[99]] ke82 kz9) fun B102=>Bi fun R103 H104=>Fo (Cl [1] zcN H104 r r1 ⟨(Bc Z0),(Oc 0 r),⟨⟩⟩) fun _=>Yo (Fb zf8 r)<|Fu (Sb 3 kk9 r (Cp r) r)<|Nl<|Ni 3<|Jg (.slice none 0 0) [3,1,2,0]
          refine Sr<|Qs 2 r<|Nx<|Jn Value [0,4,6] [1] (fun _ _=>[]) (fun T X=>[.box U1 66 [U0,iv T.1,iv T.2.1],.box B12 29 [iv T.2.2.1,strV R9,iv (IntKind.i64.wrap ((1:Int)+R2.1)),iv T.2.2.2.1,strV ([]),strV ([]),X],.own X (lc T.2.2.2.2)]) r2 r2 (?_) fun T106 X107=>?_
          ·refine Wc r (fun H108=>Rg<|Yo (Fb z7 r)<|Fu (Sb 2 kk3 r (Cp r) r)<|Nl<|Ni 3<|Jg (.slice none 0 0) [2,1,1,0]) fun H108=>Sr<|Qs 2 r<|Nx<|Jn Value [0,4,6] [1] (fun _ _=>[]) (fun T X=>[.box U1 66 [U0,iv T.1,iv T.2.1],.box B12 29 [iv T.2.2.1,strV R9,iv (IntKind.i64.wrap ((1:Int)+R2.1)),iv T.2.2.2.1,strV ([]),strV ([]),X],.own X (lc T.2.2.2.2)]) r2 r2 (?_) fun T109 X110=>?_
           ·refine Wc r (fun H111=>Rg<|Yo (Fb z7 r)<|Fu (Sb 2 kk3 r (Cp r) r)<|Nl<|Ni 3<|Jg (.slice none 0 0) [2,1,1,0]) fun H111=>Sr<|Qs 2 r<|Nx<|Jn Value [0,4,6] [1] (fun _ _=>[]) (fun T X=>[.box U1 66 [U0,iv T.1,iv T.2.1],.box B12 29 [iv T.2.2.1,strV R9,iv (IntKind.i64.wrap ((1:Int)+R2.1)),iv T.2.2.2.1,strV ([]),strV ([]),X],.own X (lc T.2.2.2.2)]) r2 r2 (?_) fun T112 X113=>?_
            ·refine Wc r (fun H114=>Rg<|Yo (Fb z7 r)<|Fu (Sb 2 kk3 r (Cp r) r)<|Nl<|Ni 3<|Jg (.slice none 0 0) [2,1,1,0]) fun H114=>Sr<|Qs 2 r<|Nx<|Jn Value [0,4,6] [1] (fun _ _=>[]) (fun T X=>[.box U1 66 [U0,iv T.1,iv T.2.1],.box B12 29 [iv T.2.2.1,strV R9,iv (IntKind.i64.wrap ((1:Int)+R2.1)),iv T.2.2.2.1,strV ([]),strV ([]),X],.own X (lc T.2.2.2.2)]) r2 r2 (?_) fun T115 X116=>?_
             ·refine Wc r (fun H117=>?_) fun H117=>?_
              ·exact Sr<|Yo (Fb z7 r)<|Fu (Sb 2 kk3 r (Cp r) r)<|Nx<|Rg<|Qs 1 r<|Fo (Bs [(0:Int),(0:Int),(1:Int),(2:Int),(9:Int),(-1:Int)] ke53 kz3) fun B118=>Bi fun R119 H120=>Fo (Cl [1] zcs H120 r r1 ⟨(Bc Z0),(Oc 0 r),⟨⟩⟩) fun _=>Yo (Fb zdI r)<|Fu (Sb 3 kk3 r (Cp r) r)<|Nl<|Ni 3<|Jg (.slice none 0 0) [3,1,2,0]
              exact Rg<|Qs 1 r<|Bi fun R122 H123=>Fo (Cl [0] zmm H123 r r1 ⟨(Bc Z0),⟨⟩⟩) fun Y124=>Yo (Fb zf9 r)<|Fu (Sb 3 kk27 r (Co 1) r)<|Nl<|Jg Y124 [2,0,1,0]
             exact Jg X116 [0,0,0,0]
            exact Jg X113 [0,0,0,0]
           exact Jg X110 [0,0,0,0]
          exact Jg X107 [0,0,0,0]
         exact Jg X97 [0,0,0,0]
        exact Jg X88 [0,0,0,0]
       exact Jg X85 [0,0,0,0]
      exact Jg X74 [0,0,0,0]
     exact Jg X64 [0,0,0,0]
    exact Jg X49 [0,0,0,0]
   exact Jg X40 [0,0,0,0]
  exact Jg X33 [0,0,0,0]
 refine Bn<|Ne<|Sq<|Sr<|Qs 1 r<|Bi fun R125 H126=>Fo (Cl [1] zbe H126 r r1 ⟨(Bc Z0),⟨⟩⟩) fun _=>Nx<|Jn Unit [0,4,6] [1,2] (fun _ _=>[]) (fun T _=>[.box U1 66 [U0,iv T.1,iv T.2.1],.box B12 29 [iv T.2.2,strV R9,iv (IntKind.i64.wrap ((1:Int)+R2.1)),iv T19.2.2.2.1,strV T19.2.2.2.2.1,strV T19.2.2.2.2.2.1,X20]]) r2 r2 (Wc r (fun H130=>Rg<|Qs 1 r<|Fo (Bs [(0:Int),(15:Int)] ke53 kz3) fun B131=>Bi fun R132 H133=>Fo (Cl [1] zcs H133 r r1 ⟨(Bc Z0),(Oc 0 r),⟨⟩⟩) fun _=>Yo (Fb z7 r)<|Fu (Sb 3 kk3 r (Cp r) r)<|Nl<|Jg () [2,3,0,1]) fun H130=>Sk<|Jg () [1,2,0,0]) fun T128 X129=>?_
 refine Ne<|Sq<|Sr<|Qs 1 r<|Bi fun R135 H136=>Fo (Cl [2] zbe H136 r r1 ⟨(Bc Z0),⟨⟩⟩) fun _=>Nx<|Jn Unit [4,6] [1,1] (fun _ _=>[]) (fun T _=>[.box B12 29 [iv T128.2.2,strV T.1,iv (IntKind.i64.wrap ((1:Int)+R2.1)),iv T19.2.2.2.1,strV T19.2.2.2.2.1,strV T19.2.2.2.2.2.1,X20],.box U1 66 [U0,iv T.2.1,iv T.2.2]]) r2 r2 (Wc r (fun H140=>Rg<|Qs 1 r<|Yo (Fb zj9 r)<|Yo (Lb 3 kk9 r)<|Bi fun R141 H142=>Fo (Cl [0] zm2 H142 r r1 ⟨(Bc Z0),⟨⟩⟩) fun _=>Yo (Fb zj9 r)<|Fu (Sb 3 kk9 r (Cp r) r)<|Nl<|Jg () [1,1,1,0]) fun H140=>Sk<|Jg () [1,1,1,0]) fun T138 X139=>?_
 exact Ne<|Sr<|Yo (Lb 2 kk29 r)<|Fu (Sb 0 kk29 r (Ca ⟨Op',Op',Op',Op',Op',Op',Ow' 1,⟨⟩⟩) r)<|Nx<|Wr<|Rf X20 [3,1] (RV.cell 0 r r kk29 r Rz)
end Go.Proofs.YtfgjhefhlabpkaaGreat
