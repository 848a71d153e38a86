/- Chapter 24: the data as Lean structures, and their cells. Conditions: none. -/
import Derived.Test.YtnnlaccdendkpaaVNa
namespace Go.Hh
open Go Go.Av
structure Val where
 kind : Int
 n : Int
 s : ByteArray
structure Attr where
 name : ByteArray
 kind : Int
 min : Int
 max : Int
 enum : List ByteArray
 writable : Bool
 safety : Bool
structure Effect where
 kind : Int
 attr : ByteArray
 n : Int
structure Command where
 name : ByteArray
 param : Attr
 effects : List Effect
structure Cluster where
 name : ByteArray
 attrs : List Attr
 commands : List Command
 events : List ByteArray
structure Dev where
 id : Int
 eui : Int
 vendor : Int
 sleepy : Bool
 poll : Int
 room : ByteArray
 clusters : List ByteArray
structure Home where
 clusters : List Cluster
 devices : List Dev
structure KeyV where
 dev : Int
 cluster : ByteArray
 attr : ByteArray
structure ItemV where
 key : KeyV
 value : Val
 version : Int
structure MsgV where
 kind : Int
 dev : Int
 epoch : Int
 version : Int
 items : List ItemV
 cluster : ByteArray
 name : ByteArray
 data : ByteArray
structure Rd where
 rest : ByteArray
 err : Int
 made : Bool
structure RRd where
 s : ByteArray
 at_ : Int
 bad : Int
 made : Bool

instance : Inhabited Val := ⟨⟨0, 0, ByteArray.empty⟩⟩
instance : Inhabited Attr := ⟨⟨ByteArray.empty, 0, 0, 0, [], false, false⟩⟩
instance : Inhabited Effect := ⟨⟨0, ByteArray.empty, 0⟩⟩
instance : Inhabited Command := ⟨⟨ByteArray.empty, default, []⟩⟩
instance : Inhabited Cluster := ⟨⟨ByteArray.empty, [], [], []⟩⟩
instance : Inhabited Dev := ⟨⟨0, 0, 0, false, 0, ByteArray.empty, []⟩⟩
instance : Inhabited Home := ⟨⟨[], []⟩⟩
instance : Inhabited KeyV := ⟨⟨0, ByteArray.empty, ByteArray.empty⟩⟩
instance : Inhabited ItemV := ⟨⟨default, default, 0⟩⟩
instance : Inhabited MsgV := ⟨⟨0, 0, 0, 0, [], ByteArray.empty, ByteArray.empty, ByteArray.empty⟩⟩
instance : Inhabited Rd := ⟨⟨ByteArray.empty, 0, false⟩⟩
instance : Inhabited RRd := ⟨⟨ByteArray.empty, 0, 0, false⟩⟩

def Val.cells (x : Val) : List RV := [.v (.int .i64 x.kind), .v (.int .i64 x.n), .v (.string x.s)]
def Attr.cells (x : Attr) : List RV := [.v (.string x.name), .v (.int .i64 x.kind), .v (.int .i64 x.min), .v (.int .i64 x.max), .sl 1 (x.enum.map strC), .v (.bool x.writable), .v (.bool x.safety)]
def Effect.cells (x : Effect) : List RV := [.v (.int .i64 x.kind), .v (.string x.attr), .v (.int .i64 x.n)]
def Command.cells (x : Command) : List RV := .v (.string x.name) :: (x.param.cells ++ [.sl 3 (x.effects.map Effect.cells)])
def Cluster.cells (x : Cluster) : List RV := [.v (.string x.name), .sl 7 (x.attrs.map Attr.cells), .sl 9 (x.commands.map Command.cells), .sl 1 (x.events.map strC)]
def Dev.cells (x : Dev) : List RV := [.v (.int .i64 x.id), .v (.int .u64 x.eui), .v (.int .i64 x.vendor), .v (.bool x.sleepy), .v (.int .i64 x.poll), .v (.string x.room), .sl 1 (x.clusters.map strC)]
def Home.cells (x : Home) : List RV := [.sl 4 (x.clusters.map Cluster.cells), .sl 7 (x.devices.map Dev.cells)]
def KeyV.cells (x : KeyV) : List RV := [.v (.int .i64 x.dev), .v (.string x.cluster), .v (.string x.attr)]
def ItemV.cells (x : ItemV) : List RV := (x.key.cells ++ (x.value.cells ++ [.v (.int .i64 x.version)]))
def MsgV.cells (x : MsgV) : List RV := [.v (.int .i64 x.kind), .v (.int .i64 x.dev), .v (.int .i64 x.epoch), .v (.int .i64 x.version), .sl 7 (x.items.map ItemV.cells), .v (.string x.cluster), .v (.string x.name), .v (.string x.data)]
def Rd.cells (x : Rd) : List RV := [.v (.string x.rest), .v (.int .i64 x.err), .v (.bool x.made)]
def RRd.cells (x : RRd) : List RV := [.v (.string x.s), .v (.int .i64 x.at_), .v (.int .i64 x.bad), .v (.bool x.made)]
def FitA (c : Cluster) : Prop := ∀ a ∈ c.attrs, a.enum.length ≤ 1000000
end Go.Hh
