/- The program's data, typed. -/
import Derived.Test.YtihhlajibgoemaaGreatEvTyp
namespace Go.Md
open Go Go.Ev
set_option linter.unusedVariables false
set_option linter.unusedSimpArgs false
structure TReader where
 b:List UInt8
 at_:Int
 bad:Bool
instance:En TReader where
 leaves:=[.sl 1 true,.int .i64,.bool]
 enc o x:=[.sl o 1 (enS o x.b),.int .i64 x.at_,.bool x.bad]
 dec r:=⟨deS UInt8 (r.getD 0 .dead).rows,(r.getD 1 .dead).num,(r.getD 2 .dead).flag⟩
 nil:=⟨[],0,false⟩
 dec_enc o x:=by simp[List.getD_cons_zero,List.getD_cons_succ,D.num,D.flag,D.text,D.rows,Zad]
 fit o x:=by simp[fits,Leaf.fit]
 lend o x:=by simp[lendRow,D.lend,Zaf]
 deep x:=by simp[deepRow,D.deep,Zal]
theorem TReader.eta(x:TReader):(⟨x.b,x.at_,x.bad⟩:TReader)=x:=rfl
structure TFrame where
 To:Int
 From:Int
 Vlan:Int
 Load:List UInt8
instance:En TFrame where
 leaves:=[.int .i64,.int .i64,.int .i64,.sl 1 true]
 enc o x:=[.int .i64 x.To,.int .i64 x.From,.int .i64 x.Vlan,.sl o 1 (enS o x.Load)]
 dec r:=⟨(r.getD 0 .dead).num,(r.getD 1 .dead).num,(r.getD 2 .dead).num,deS UInt8 (r.getD 3 .dead).rows⟩
 nil:=⟨0,0,0,[]⟩
 dec_enc o x:=by simp[List.getD_cons_zero,List.getD_cons_succ,D.num,D.flag,D.text,D.rows,Zad]
 fit o x:=by simp[fits,Leaf.fit]
 lend o x:=by simp[lendRow,D.lend,Zaf]
 deep x:=by simp[deepRow,D.deep,Zal]
theorem TFrame.eta(x:TFrame):(⟨x.To,x.From,x.Vlan,x.Load⟩:TFrame)=x:=rfl
structure Heard where
 Addr:Int
 Vlan:Int
 Port:Int
 Left:Int
instance:En Heard where
 leaves:=[.int .i64,.int .i64,.int .i64,.int .i64]
 enc _ x:=[.int .i64 x.Addr,.int .i64 x.Vlan,.int .i64 x.Port,.int .i64 x.Left]
 dec r:=⟨(r.getD 0 .dead).num,(r.getD 1 .dead).num,(r.getD 2 .dead).num,(r.getD 3 .dead).num⟩
 nil:=⟨0,0,0,0⟩
 dec_enc _ _:=rfl
 fit _ _:=rfl
 lend _ _:=rfl
 deep _:=rfl
theorem Heard.eta(x:Heard):(⟨x.Addr,x.Vlan,x.Port,x.Left⟩:Heard)=x:=rfl
structure Member where
 Own:Int
 In:List Int
instance:En Member where
 leaves:=[.int .i64,.sl 1 true]
 enc o x:=[.int .i64 x.Own,.sl o 1 (enS o x.In)]
 dec r:=⟨(r.getD 0 .dead).num,deS Int (r.getD 1 .dead).rows⟩
 nil:=⟨0,[]⟩
 dec_enc o x:=by simp[List.getD_cons_zero,List.getD_cons_succ,D.num,D.flag,D.text,D.rows,Zad]
 fit o x:=by simp[fits,Leaf.fit]
 lend o x:=by simp[lendRow,D.lend,Zaf]
 deep x:=by simp[deepRow,D.deep,Zal]
theorem Member.eta(x:Member):(⟨x.Own,x.In⟩:Member)=x:=rfl
structure Card where
 Open:List Bool
 Members:List Member
 Table:List Heard
instance:En Card where
 leaves:=[.sl 1 true,.sl 2 false,.sl 4 true]
 enc o x:=[.sl o 1 (enS o x.Open),.sl o 2 (enS o x.Members),.sl o 4 (enS o x.Table)]
 dec r:=⟨deS Bool (r.getD 0 .dead).rows,deS Member (r.getD 1 .dead).rows,deS Heard (r.getD 2 .dead).rows⟩
 nil:=⟨[],[],[]⟩
 dec_enc o x:=by simp[List.getD_cons_zero,List.getD_cons_succ,D.num,D.flag,D.text,D.rows,Zad]
 fit o x:=by simp[fits,Leaf.fit]
 lend o x:=by simp[lendRow,D.lend,Zaf]
 deep x:=by simp[deepRow,D.deep,Zal]
theorem Card.eta(x:Card):(⟨x.Open,x.Members,x.Table⟩:Card)=x:=rfl
structure Out1 where
 Port:Int
 Frame:TFrame
instance:En Out1 where
 leaves:=[.int .i64,.int .i64,.int .i64,.int .i64,.sl 1 true]
 enc o x:=[.int .i64 x.Port,.int .i64 x.Frame.To,.int .i64 x.Frame.From,.int .i64 x.Frame.Vlan,.sl o 1 (enS o x.Frame.Load)]
 dec r:=⟨(r.getD 0 .dead).num,⟨(r.getD 1 .dead).num,(r.getD 2 .dead).num,(r.getD 3 .dead).num,deS UInt8 (r.getD 4 .dead).rows⟩⟩
 nil:=⟨0,⟨0,0,0,[]⟩⟩
 dec_enc o x:=by simp[List.getD_cons_zero,List.getD_cons_succ,D.num,D.flag,D.text,D.rows,Zad]
 fit o x:=by simp[fits,Leaf.fit]
 lend o x:=by simp[lendRow,D.lend,Zaf]
 deep x:=by simp[deepRow,D.deep,Zal]
theorem Out1.eta(x:Out1):(⟨x.Port,x.Frame⟩:Out1)=x:=rfl
structure Vec where
 Root:Int
 Cost:Int
 Bridge:Int
 Port:Int
instance:En Vec where
 leaves:=[.int .i64,.int .i64,.int .i64,.int .i64]
 enc _ x:=[.int .i64 x.Root,.int .i64 x.Cost,.int .i64 x.Bridge,.int .i64 x.Port]
 dec r:=⟨(r.getD 0 .dead).num,(r.getD 1 .dead).num,(r.getD 2 .dead).num,(r.getD 3 .dead).num⟩
 nil:=⟨0,0,0,0⟩
 dec_enc _ _:=rfl
 fit _ _:=rfl
 lend _ _:=rfl
 deep _:=rfl
theorem Vec.eta(x:Vec):(⟨x.Root,x.Cost,x.Bridge,x.Port⟩:Vec)=x:=rfl
structure Port where
 Up:Bool
 Has:Bool
 Vec:Vec
 Hops:Int
 Left:Int
 Role:Int
 Wait:Int
 Open:Bool
instance:En Port where
 leaves:=[.bool,.bool,.int .i64,.int .i64,.int .i64,.int .i64,.int .i64,.int .i64,.int .i64,.int .i64,.bool]
 enc _ x:=[.bool x.Up,.bool x.Has,.int .i64 x.Vec.Root,.int .i64 x.Vec.Cost,.int .i64 x.Vec.Bridge,.int .i64 x.Vec.Port,.int .i64 x.Hops,.int .i64 x.Left,.int .i64 x.Role,.int .i64 x.Wait,.bool x.Open]
 dec r:=⟨(r.getD 0 .dead).flag,(r.getD 1 .dead).flag,⟨(r.getD 2 .dead).num,(r.getD 3 .dead).num,(r.getD 4 .dead).num,(r.getD 5 .dead).num⟩,(r.getD 6 .dead).num,(r.getD 7 .dead).num,(r.getD 8 .dead).num,(r.getD 9 .dead).num,(r.getD 10 .dead).flag⟩
 nil:=⟨false,false,⟨0,0,0,0⟩,0,0,0,0,false⟩
 dec_enc _ _:=rfl
 fit _ _:=rfl
 lend _ _:=rfl
 deep _:=rfl
theorem Port.eta(x:Port):(⟨x.Up,x.Has,x.Vec,x.Hops,x.Left,x.Role,x.Wait,x.Open⟩:Port)=x:=rfl
structure Bridge where
 Id:Int
 Ports:List Port
instance:En Bridge where
 leaves:=[.int .i64,.sl 11 true]
 enc o x:=[.int .i64 x.Id,.sl o 11 (enS o x.Ports)]
 dec r:=⟨(r.getD 0 .dead).num,deS Port (r.getD 1 .dead).rows⟩
 nil:=⟨0,[]⟩
 dec_enc o x:=by simp[List.getD_cons_zero,List.getD_cons_succ,D.num,D.flag,D.text,D.rows,Zad]
 fit o x:=by simp[fits,Leaf.fit]
 lend o x:=by simp[lendRow,D.lend,Zaf]
 deep x:=by simp[deepRow,D.deep,Zal]
theorem Bridge.eta(x:Bridge):(⟨x.Id,x.Ports⟩:Bridge)=x:=rfl
structure In where
 Kind:Int
 Port:Int
 Vec:Vec
 Hops:Int
 Up:Bool
instance:En In where
 leaves:=[.int .i64,.int .i64,.int .i64,.int .i64,.int .i64,.int .i64,.int .i64,.bool]
 enc _ x:=[.int .i64 x.Kind,.int .i64 x.Port,.int .i64 x.Vec.Root,.int .i64 x.Vec.Cost,.int .i64 x.Vec.Bridge,.int .i64 x.Vec.Port,.int .i64 x.Hops,.bool x.Up]
 dec r:=⟨(r.getD 0 .dead).num,(r.getD 1 .dead).num,⟨(r.getD 2 .dead).num,(r.getD 3 .dead).num,(r.getD 4 .dead).num,(r.getD 5 .dead).num⟩,(r.getD 6 .dead).num,(r.getD 7 .dead).flag⟩
 nil:=⟨0,0,⟨0,0,0,0⟩,0,false⟩
 dec_enc _ _:=rfl
 fit _ _:=rfl
 lend _ _:=rfl
 deep _:=rfl
theorem In.eta(x:In):(⟨x.Kind,x.Port,x.Vec,x.Hops,x.Up⟩:In)=x:=rfl
structure Out where
 Kind:Int
 Port:Int
 Vec:Vec
 Hops:Int
 On:Bool
instance:En Out where
 leaves:=[.int .i64,.int .i64,.int .i64,.int .i64,.int .i64,.int .i64,.int .i64,.bool]
 enc _ x:=[.int .i64 x.Kind,.int .i64 x.Port,.int .i64 x.Vec.Root,.int .i64 x.Vec.Cost,.int .i64 x.Vec.Bridge,.int .i64 x.Vec.Port,.int .i64 x.Hops,.bool x.On]
 dec r:=⟨(r.getD 0 .dead).num,(r.getD 1 .dead).num,⟨(r.getD 2 .dead).num,(r.getD 3 .dead).num,(r.getD 4 .dead).num,(r.getD 5 .dead).num⟩,(r.getD 6 .dead).num,(r.getD 7 .dead).flag⟩
 nil:=⟨0,0,⟨0,0,0,0⟩,0,false⟩
 dec_enc _ _:=rfl
 fit _ _:=rfl
 lend _ _:=rfl
 deep _:=rfl
theorem Out.eta(x:Out):(⟨x.Kind,x.Port,x.Vec,x.Hops,x.On⟩:Out)=x:=rfl
structure Link where
 A:Int
 P:Int
 B:Int
 Q:Int
instance:En Link where
 leaves:=[.int .i64,.int .i64,.int .i64,.int .i64]
 enc _ x:=[.int .i64 x.A,.int .i64 x.P,.int .i64 x.B,.int .i64 x.Q]
 dec r:=⟨(r.getD 0 .dead).num,(r.getD 1 .dead).num,(r.getD 2 .dead).num,(r.getD 3 .dead).num⟩
 nil:=⟨0,0,0,0⟩
 dec_enc _ _:=rfl
 fit _ _:=rfl
 lend _ _:=rfl
 deep _:=rfl
theorem Link.eta(x:Link):(⟨x.A,x.P,x.B,x.Q⟩:Link)=x:=rfl
structure Net where
 Bridges:List Bridge
 Links:List Link
instance:En Net where
 leaves:=[.sl 2 false,.sl 4 true]
 enc o x:=[.sl o 2 (enS o x.Bridges),.sl o 4 (enS o x.Links)]
 dec r:=⟨deS Bridge (r.getD 0 .dead).rows,deS Link (r.getD 1 .dead).rows⟩
 nil:=⟨[],[]⟩
 dec_enc o x:=by simp[List.getD_cons_zero,List.getD_cons_succ,D.num,D.flag,D.text,D.rows,Zad]
 fit o x:=by simp[fits,Leaf.fit]
 lend o x:=by simp[lendRow,D.lend,Zaf]
 deep x:=by simp[deepRow,D.deep,Zal]
theorem Net.eta(x:Net):(⟨x.Bridges,x.Links⟩:Net)=x:=rfl
structure TEnd where
 bridge:Int
 port:Int
instance:En TEnd where
 leaves:=[.int .i64,.int .i64]
 enc _ x:=[.int .i64 x.bridge,.int .i64 x.port]
 dec r:=⟨(r.getD 0 .dead).num,(r.getD 1 .dead).num⟩
 nil:=⟨0,0⟩
 dec_enc _ _:=rfl
 fit _ _:=rfl
 lend _ _:=rfl
 deep _:=rfl
theorem TEnd.eta(x:TEnd):(⟨x.bridge,x.port⟩:TEnd)=x:=rfl
structure Minder where
 Up:Bool
 Life:Int
 Epoch:Int
 Log:List In
 Said:Int
 Acked:Int
 AckLife:Int
instance:En Minder where
 leaves:=[.bool,.int .i64,.int .i64,.sl 8 true,.int .i64,.int .i64,.int .i64]
 enc o x:=[.bool x.Up,.int .i64 x.Life,.int .i64 x.Epoch,.sl o 8 (enS o x.Log),.int .i64 x.Said,.int .i64 x.Acked,.int .i64 x.AckLife]
 dec r:=⟨(r.getD 0 .dead).flag,(r.getD 1 .dead).num,(r.getD 2 .dead).num,deS In (r.getD 3 .dead).rows,(r.getD 4 .dead).num,(r.getD 5 .dead).num,(r.getD 6 .dead).num⟩
 nil:=⟨false,0,0,[],0,0,0⟩
 dec_enc o x:=by simp[List.getD_cons_zero,List.getD_cons_succ,D.num,D.flag,D.text,D.rows,Zad]
 fit o x:=by simp[fits,Leaf.fit]
 lend o x:=by simp[lendRow,D.lend,Zaf]
 deep x:=by simp[deepRow,D.deep,Zal]
theorem Minder.eta(x:Minder):(⟨x.Up,x.Life,x.Epoch,x.Log,x.Said,x.Acked,x.AckLife⟩:Minder)=x:=rfl
structure Reg where
 Epoch:Int
 Owner:Int
 Pair:Int
instance:En Reg where
 leaves:=[.int .i64,.int .i64,.int .i64]
 enc _ x:=[.int .i64 x.Epoch,.int .i64 x.Owner,.int .i64 x.Pair]
 dec r:=⟨(r.getD 0 .dead).num,(r.getD 1 .dead).num,(r.getD 2 .dead).num⟩
 nil:=⟨0,0,0⟩
 dec_enc _ _:=rfl
 fit _ _:=rfl
 lend _ _:=rfl
 deep _:=rfl
theorem Reg.eta(x:Reg):(⟨x.Epoch,x.Owner,x.Pair⟩:Reg)=x:=rfl
structure Wire where
 From:Int
 Ack:Bool
 Life:Int
 N:Int
 In:In
instance:En Wire where
 leaves:=[.int .i64,.bool,.int .i64,.int .i64,.int .i64,.int .i64,.int .i64,.int .i64,.int .i64,.int .i64,.int .i64,.bool]
 enc _ x:=[.int .i64 x.From,.bool x.Ack,.int .i64 x.Life,.int .i64 x.N,.int .i64 x.In.Kind,.int .i64 x.In.Port,.int .i64 x.In.Vec.Root,.int .i64 x.In.Vec.Cost,.int .i64 x.In.Vec.Bridge,.int .i64 x.In.Vec.Port,.int .i64 x.In.Hops,.bool x.In.Up]
 dec r:=⟨(r.getD 0 .dead).num,(r.getD 1 .dead).flag,(r.getD 2 .dead).num,(r.getD 3 .dead).num,⟨(r.getD 4 .dead).num,(r.getD 5 .dead).num,⟨(r.getD 6 .dead).num,(r.getD 7 .dead).num,(r.getD 8 .dead).num,(r.getD 9 .dead).num⟩,(r.getD 10 .dead).num,(r.getD 11 .dead).flag⟩⟩
 nil:=⟨0,false,0,0,⟨0,0,⟨0,0,0,0⟩,0,false⟩⟩
 dec_enc _ _:=rfl
 fit _ _:=rfl
 lend _ _:=rfl
 deep _:=rfl
theorem Wire.eta(x:Wire):(⟨x.From,x.Ack,x.Life,x.N,x.In⟩:Wire)=x:=rfl
structure Box where
 Id:Int
 Ports:Int
 Reg:Reg
 Two:List Minder
 Net:List Wire
 Gates:List Bool
 Line:List In
 Said:List Out
instance:En Box where
 leaves:=[.int .i64,.int .i64,.int .i64,.int .i64,.int .i64,.sl 7 false,.sl 12 true,.sl 1 true,.sl 8 true,.sl 8 true]
 enc o x:=[.int .i64 x.Id,.int .i64 x.Ports,.int .i64 x.Reg.Epoch,.int .i64 x.Reg.Owner,.int .i64 x.Reg.Pair,.sl o 7 (enS o x.Two),.sl o 12 (enS o x.Net),.sl o 1 (enS o x.Gates),.sl o 8 (enS o x.Line),.sl o 8 (enS o x.Said)]
 dec r:=⟨(r.getD 0 .dead).num,(r.getD 1 .dead).num,⟨(r.getD 2 .dead).num,(r.getD 3 .dead).num,(r.getD 4 .dead).num⟩,deS Minder (r.getD 5 .dead).rows,deS Wire (r.getD 6 .dead).rows,deS Bool (r.getD 7 .dead).rows,deS In (r.getD 8 .dead).rows,deS Out (r.getD 9 .dead).rows⟩
 nil:=⟨0,0,⟨0,0,0⟩,[],[],[],[],[]⟩
 dec_enc o x:=by simp[List.getD_cons_zero,List.getD_cons_succ,D.num,D.flag,D.text,D.rows,Zad]
 fit o x:=by simp[fits,Leaf.fit]
 lend o x:=by simp[lendRow,D.lend,Zaf]
 deep x:=by simp[deepRow,D.deep,Zal]
theorem Box.eta(x:Box):(⟨x.Id,x.Ports,x.Reg,x.Two,x.Net,x.Gates,x.Line,x.Said⟩:Box)=x:=rfl
structure Deed where
 Kind:Int
 A:Int
 In:In
instance:En Deed where
 leaves:=[.int .i64,.int .i64,.int .i64,.int .i64,.int .i64,.int .i64,.int .i64,.int .i64,.int .i64,.bool]
 enc _ x:=[.int .i64 x.Kind,.int .i64 x.A,.int .i64 x.In.Kind,.int .i64 x.In.Port,.int .i64 x.In.Vec.Root,.int .i64 x.In.Vec.Cost,.int .i64 x.In.Vec.Bridge,.int .i64 x.In.Vec.Port,.int .i64 x.In.Hops,.bool x.In.Up]
 dec r:=⟨(r.getD 0 .dead).num,(r.getD 1 .dead).num,⟨(r.getD 2 .dead).num,(r.getD 3 .dead).num,⟨(r.getD 4 .dead).num,(r.getD 5 .dead).num,(r.getD 6 .dead).num,(r.getD 7 .dead).num⟩,(r.getD 8 .dead).num,(r.getD 9 .dead).flag⟩⟩
 nil:=⟨0,0,⟨0,0,⟨0,0,0,0⟩,0,false⟩⟩
 dec_enc _ _:=rfl
 fit _ _:=rfl
 lend _ _:=rfl
 deep _:=rfl
theorem Deed.eta(x:Deed):(⟨x.Kind,x.A,x.In⟩:Deed)=x:=rfl
structure Bpdu where
 Change:Bool
 Ask:Bool
 Agree:Bool
 Learn:Bool
 Open:Bool
 Role:Int
 Vec:Vec
 Hops:Int
instance:En Bpdu where
 leaves:=[.bool,.bool,.bool,.bool,.bool,.int .i64,.int .i64,.int .i64,.int .i64,.int .i64,.int .i64]
 enc _ x:=[.bool x.Change,.bool x.Ask,.bool x.Agree,.bool x.Learn,.bool x.Open,.int .i64 x.Role,.int .i64 x.Vec.Root,.int .i64 x.Vec.Cost,.int .i64 x.Vec.Bridge,.int .i64 x.Vec.Port,.int .i64 x.Hops]
 dec r:=⟨(r.getD 0 .dead).flag,(r.getD 1 .dead).flag,(r.getD 2 .dead).flag,(r.getD 3 .dead).flag,(r.getD 4 .dead).flag,(r.getD 5 .dead).num,⟨(r.getD 6 .dead).num,(r.getD 7 .dead).num,(r.getD 8 .dead).num,(r.getD 9 .dead).num⟩,(r.getD 10 .dead).num⟩
 nil:=⟨false,false,false,false,false,0,⟨0,0,0,0⟩,0⟩
 dec_enc _ _:=rfl
 fit _ _:=rfl
 lend _ _:=rfl
 deep _:=rfl
theorem Bpdu.eta(x:Bpdu):(⟨x.Change,x.Ask,x.Agree,x.Learn,x.Open,x.Role,x.Vec,x.Hops⟩:Bpdu)=x:=rfl
structure Visit where
 Bridge:Int
 Port:Int
 Far:Int
instance:En Visit where
 leaves:=[.int .i64,.int .i64,.int .i64]
 enc _ x:=[.int .i64 x.Bridge,.int .i64 x.Port,.int .i64 x.Far]
 dec r:=⟨(r.getD 0 .dead).num,(r.getD 1 .dead).num,(r.getD 2 .dead).num⟩
 nil:=⟨0,0,0⟩
 dec_enc _ _:=rfl
 fit _ _:=rfl
 lend _ _:=rfl
 deep _:=rfl
theorem Visit.eta(x:Visit):(⟨x.Bridge,x.Port,x.Far⟩:Visit)=x:=rfl
structure Fabric where
 Net:Net
 Cards:List Card
instance:En Fabric where
 leaves:=[.sl 2 false,.sl 4 true,.sl 3 false]
 enc o x:=[.sl o 2 (enS o x.Net.Bridges),.sl o 4 (enS o x.Net.Links),.sl o 3 (enS o x.Cards)]
 dec r:=⟨⟨deS Bridge (r.getD 0 .dead).rows,deS Link (r.getD 1 .dead).rows⟩,deS Card (r.getD 2 .dead).rows⟩
 nil:=⟨⟨[],[]⟩,[]⟩
 dec_enc o x:=by simp[List.getD_cons_zero,List.getD_cons_succ,D.num,D.flag,D.text,D.rows,Zad]
 fit o x:=by simp[fits,Leaf.fit]
 lend o x:=by simp[lendRow,D.lend,Zaf]
 deep x:=by simp[deepRow,D.deep,Zal]
theorem Fabric.eta(x:Fabric):(⟨x.Net,x.Cards⟩:Fabric)=x:=rfl
structure Got where
 Bridge:Int
 Frame:TFrame
instance:En Got where
 leaves:=[.int .i64,.int .i64,.int .i64,.int .i64,.sl 1 true]
 enc o x:=[.int .i64 x.Bridge,.int .i64 x.Frame.To,.int .i64 x.Frame.From,.int .i64 x.Frame.Vlan,.sl o 1 (enS o x.Frame.Load)]
 dec r:=⟨(r.getD 0 .dead).num,⟨(r.getD 1 .dead).num,(r.getD 2 .dead).num,(r.getD 3 .dead).num,deS UInt8 (r.getD 4 .dead).rows⟩⟩
 nil:=⟨0,⟨0,0,0,[]⟩⟩
 dec_enc o x:=by simp[List.getD_cons_zero,List.getD_cons_succ,D.num,D.flag,D.text,D.rows,Zad]
 fit o x:=by simp[fits,Leaf.fit]
 lend o x:=by simp[lendRow,D.lend,Zaf]
 deep x:=by simp[deepRow,D.deep,Zal]
theorem Got.eta(x:Got):(⟨x.Bridge,x.Frame⟩:Got)=x:=rfl
structure TRide where
 at_:TEnd
 frame:TFrame
instance:En TRide where
 leaves:=[.int .i64,.int .i64,.int .i64,.int .i64,.int .i64,.sl 1 true]
 enc o x:=[.int .i64 x.at_.bridge,.int .i64 x.at_.port,.int .i64 x.frame.To,.int .i64 x.frame.From,.int .i64 x.frame.Vlan,.sl o 1 (enS o x.frame.Load)]
 dec r:=⟨⟨(r.getD 0 .dead).num,(r.getD 1 .dead).num⟩,⟨(r.getD 2 .dead).num,(r.getD 3 .dead).num,(r.getD 4 .dead).num,deS UInt8 (r.getD 5 .dead).rows⟩⟩
 nil:=⟨⟨0,0⟩,⟨0,0,0,[]⟩⟩
 dec_enc o x:=by simp[List.getD_cons_zero,List.getD_cons_succ,D.num,D.flag,D.text,D.rows,Zad]
 fit o x:=by simp[fits,Leaf.fit]
 lend o x:=by simp[lendRow,D.lend,Zaf]
 deep x:=by simp[deepRow,D.deep,Zal]
theorem TRide.eta(x:TRide):(⟨x.at_,x.frame⟩:TRide)=x:=rfl
structure Up where
 Seq:Int
 Addr:Int
 Vlan:Int
 Port:Int
instance:En Up where
 leaves:=[.int .i64,.int .i64,.int .i64,.int .i64]
 enc _ x:=[.int .i64 x.Seq,.int .i64 x.Addr,.int .i64 x.Vlan,.int .i64 x.Port]
 dec r:=⟨(r.getD 0 .dead).num,(r.getD 1 .dead).num,(r.getD 2 .dead).num,(r.getD 3 .dead).num⟩
 nil:=⟨0,0,0,0⟩
 dec_enc _ _:=rfl
 fit _ _:=rfl
 lend _ _:=rfl
 deep _:=rfl
theorem Up.eta(x:Up):(⟨x.Seq,x.Addr,x.Vlan,x.Port⟩:Up)=x:=rfl
structure Copy where
 Next:Int
 Table:List Heard
instance:En Copy where
 leaves:=[.int .i64,.sl 4 true]
 enc o x:=[.int .i64 x.Next,.sl o 4 (enS o x.Table)]
 dec r:=⟨(r.getD 0 .dead).num,deS Heard (r.getD 1 .dead).rows⟩
 nil:=⟨0,[]⟩
 dec_enc o x:=by simp[List.getD_cons_zero,List.getD_cons_succ,D.num,D.flag,D.text,D.rows,Zad]
 fit o x:=by simp[fits,Leaf.fit]
 lend o x:=by simp[lendRow,D.lend,Zaf]
 deep x:=by simp[deepRow,D.deep,Zal]
theorem Copy.eta(x:Copy):(⟨x.Next,x.Table⟩:Copy)=x:=rfl
structure Bucket where
 Have:Int
 Most:Int
 Per:Int
instance:En Bucket where
 leaves:=[.int .i64,.int .i64,.int .i64]
 enc _ x:=[.int .i64 x.Have,.int .i64 x.Most,.int .i64 x.Per]
 dec r:=⟨(r.getD 0 .dead).num,(r.getD 1 .dead).num,(r.getD 2 .dead).num⟩
 nil:=⟨0,0,0⟩
 dec_enc _ _:=rfl
 fit _ _:=rfl
 lend _ _:=rfl
 deep _:=rfl
theorem Bucket.eta(x:Bucket):(⟨x.Have,x.Most,x.Per⟩:Bucket)=x:=rfl
structure Snap where
 N:Int
 Bytes:List UInt8
instance:En Snap where
 leaves:=[.int .i64,.sl 1 true]
 enc o x:=[.int .i64 x.N,.sl o 1 (enS o x.Bytes)]
 dec r:=⟨(r.getD 0 .dead).num,deS UInt8 (r.getD 1 .dead).rows⟩
 nil:=⟨0,[]⟩
 dec_enc o x:=by simp[List.getD_cons_zero,List.getD_cons_succ,D.num,D.flag,D.text,D.rows,Zad]
 fit o x:=by simp[fits,Leaf.fit]
 lend o x:=by simp[lendRow,D.lend,Zaf]
 deep x:=by simp[deepRow,D.deep,Zal]
theorem Snap.eta(x:Snap):(⟨x.N,x.Bytes⟩:Snap)=x:=rfl
structure TL1Cur where
 b:List (List D)
 i:Int
 h:Int
theorem TL1Cur.eta(x:TL1Cur):(⟨x.b,x.i,x.h⟩:TL1Cur)=x:=rfl
structure TL9Cur where
 b:List UInt8
 at_:Int
 ok:Bool
instance:En TL9Cur where
 leaves:=[.sl 1 true,.int .i64,.bool]
 enc o x:=[.sl o 1 (enS o x.b),.int .i64 x.at_,.bool x.ok]
 dec r:=⟨deS UInt8 (r.getD 0 .dead).rows,(r.getD 1 .dead).num,(r.getD 2 .dead).flag⟩
 nil:=⟨[],0,false⟩
 dec_enc o x:=by simp[List.getD_cons_zero,List.getD_cons_succ,D.num,D.flag,D.text,D.rows,Zad]
 fit o x:=by simp[fits,Leaf.fit]
 lend o x:=by simp[lendRow,D.lend,Zaf]
 deep x:=by simp[deepRow,D.deep,Zal]
theorem TL9Cur.eta(x:TL9Cur):(⟨x.b,x.at_,x.ok⟩:TL9Cur)=x:=rfl
structure TL21In where
 bridge:Int
 port:Int
 frame:TFrame
instance:En TL21In where
 leaves:=[.int .i64,.int .i64,.int .i64,.int .i64,.int .i64,.sl 1 true]
 enc o x:=[.int .i64 x.bridge,.int .i64 x.port,.int .i64 x.frame.To,.int .i64 x.frame.From,.int .i64 x.frame.Vlan,.sl o 1 (enS o x.frame.Load)]
 dec r:=⟨(r.getD 0 .dead).num,(r.getD 1 .dead).num,⟨(r.getD 2 .dead).num,(r.getD 3 .dead).num,(r.getD 4 .dead).num,deS UInt8 (r.getD 5 .dead).rows⟩⟩
 nil:=⟨0,0,⟨0,0,0,[]⟩⟩
 dec_enc o x:=by simp[List.getD_cons_zero,List.getD_cons_succ,D.num,D.flag,D.text,D.rows,Zad]
 fit o x:=by simp[fits,Leaf.fit]
 lend o x:=by simp[lendRow,D.lend,Zaf]
 deep x:=by simp[deepRow,D.deep,Zal]
theorem TL21In.eta(x:TL21In):(⟨x.bridge,x.port,x.frame⟩:TL21In)=x:=rfl
theorem Zbo:(∀(x:TReader),(⟨x.b,x.at_,x.bad⟩:TReader)=x)∧(∀(x:TFrame),(⟨x.To,x.From,x.Vlan,x.Load⟩:TFrame)=x)∧(∀(x:Heard),(⟨x.Addr,x.Vlan,x.Port,x.Left⟩:Heard)=x)∧(∀(x:Member),(⟨x.Own,x.In⟩:Member)=x)∧(∀(x:Card),(⟨x.Open,x.Members,x.Table⟩:Card)=x)∧(∀(x:Out1),(⟨x.Port,x.Frame⟩:Out1)=x)∧(∀(x:Vec),(⟨x.Root,x.Cost,x.Bridge,x.Port⟩:Vec)=x)∧(∀(x:Port),(⟨x.Up,x.Has,x.Vec,x.Hops,x.Left,x.Role,x.Wait,x.Open⟩:Port)=x)∧(∀(x:Bridge),(⟨x.Id,x.Ports⟩:Bridge)=x)∧(∀(x:In),(⟨x.Kind,x.Port,x.Vec,x.Hops,x.Up⟩:In)=x)∧(∀(x:Out),(⟨x.Kind,x.Port,x.Vec,x.Hops,x.On⟩:Out)=x)∧(∀(x:Link),(⟨x.A,x.P,x.B,x.Q⟩:Link)=x)∧(∀(x:Net),(⟨x.Bridges,x.Links⟩:Net)=x)∧(∀(x:TEnd),(⟨x.bridge,x.port⟩:TEnd)=x)∧(∀(x:Minder),(⟨x.Up,x.Life,x.Epoch,x.Log,x.Said,x.Acked,x.AckLife⟩:Minder)=x)∧(∀(x:Reg),(⟨x.Epoch,x.Owner,x.Pair⟩:Reg)=x)∧(∀(x:Wire),(⟨x.From,x.Ack,x.Life,x.N,x.In⟩:Wire)=x)∧(∀(x:Box),(⟨x.Id,x.Ports,x.Reg,x.Two,x.Net,x.Gates,x.Line,x.Said⟩:Box)=x)∧(∀(x:Deed),(⟨x.Kind,x.A,x.In⟩:Deed)=x)∧(∀(x:Bpdu),(⟨x.Change,x.Ask,x.Agree,x.Learn,x.Open,x.Role,x.Vec,x.Hops⟩:Bpdu)=x)∧(∀(x:Visit),(⟨x.Bridge,x.Port,x.Far⟩:Visit)=x)∧(∀(x:Fabric),(⟨x.Net,x.Cards⟩:Fabric)=x)∧(∀(x:Got),(⟨x.Bridge,x.Frame⟩:Got)=x)∧(∀(x:TRide),(⟨x.at_,x.frame⟩:TRide)=x)∧(∀(x:Up),(⟨x.Seq,x.Addr,x.Vlan,x.Port⟩:Up)=x)∧(∀(x:Copy),(⟨x.Next,x.Table⟩:Copy)=x)∧(∀(x:Bucket),(⟨x.Have,x.Most,x.Per⟩:Bucket)=x)∧(∀(x:Snap),(⟨x.N,x.Bytes⟩:Snap)=x)∧(∀(x:TL9Cur),(⟨x.b,x.at_,x.ok⟩:TL9Cur)=x)∧(∀(x:TL21In),(⟨x.bridge,x.port,x.frame⟩:TL21In)=x):=⟨TReader.eta,TFrame.eta,Heard.eta,Member.eta,Card.eta,Out1.eta,Vec.eta,Port.eta,Bridge.eta,In.eta,Out.eta,Link.eta,Net.eta,TEnd.eta,Minder.eta,Reg.eta,Wire.eta,Box.eta,Deed.eta,Bpdu.eta,Visit.eta,Fabric.eta,Got.eta,TRide.eta,Up.eta,Copy.eta,Bucket.eta,Snap.eta,TL9Cur.eta,TL21In.eta⟩
end Go.Md
