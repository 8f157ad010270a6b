/- The Go types of which slices are made, as types of Lean; each bears a number. Conditions: none. -/
import Derived.WalkKit
namespace Go.Proofs.Ytjehhmeaigkbnaa.Abs
structure TOption where (kind : Int) (data : List UInt8)
structure TPart where (at' : Int) (data : List UInt8) (last : Bool)
structure THeap where (from' to : Int) (proto id tos life : Int) (options : List UInt8) (parts : List TPart)
structure TSlot where (used : Bool) (key value : Int)
structure TStay where (room at' : Int)
structure TNode where (next0 next1 : Int) (set : Bool) (value : Int)
structure TRule where (fromAddr fromLong toAddr toLong proto fromLow fromHigh toLow toHigh : Int) (pass : Bool)
structure TDrop where (at' n : Int)
structure TQueue where (share saved : Int) (sizes : List Int)
structure TSent where (queue size : Int)
structure TDue where (id at' : Int)
structure TStation where (m0 m1 m2 m3 m4 m5 port at' : Int)
structure TTalk where (from' to fromPort toPort state over at' : Int)
structure TMap where (proto addr port out at' : Int)
structure TGuarded where (from' to fromPort toPort seq cookie delta : Int) (open' : Bool) (at' : Int)
structure TMeter where (addr rate most has at' : Int)
structure TPacket where (tos id : Int) (whole more : Bool) (start life proto from' to : Int) (options data : List UInt8)
structure TNet where (addr long : Int)
structure TSegment where (from' to seq ack flags window urgent : Int) (options : List TOption) (data : List UInt8)
structure TCame where (inside : Bool) (data : List UInt8) (at' : Int)
structure TWent where (data : List UInt8) (reason err : Int)
structure TRoad where (from' to fromPort toPort : Int)

/-- The types of elements, by number. -/
def τ : Nat → Type
  | 0 => Int
  | 1 => Bool
  | 2 => UInt8
  | 3 => List UInt8
  | 4 => TOption
  | 5 => TPart
  | 6 => THeap
  | 7 => TSlot
  | 8 => TStay
  | 9 => TNode
  | 10 => TRule
  | 11 => TDrop
  | 12 => TQueue
  | 13 => TSent
  | 14 => TDue
  | 15 => TStation
  | 16 => TTalk
  | 17 => TMap
  | 18 => TGuarded
  | 19 => TMeter
  | 20 => TPacket
  | 21 => TNet
  | 22 => List Int
  | 23 => TSegment
  | 24 => TCame
  | 25 => TWent
  | 26 => TRoad
  | 27 => Int
  | 28 => Int
  | _ => Unit
end Go.Proofs.Ytjehhmeaigkbnaa.Abs
